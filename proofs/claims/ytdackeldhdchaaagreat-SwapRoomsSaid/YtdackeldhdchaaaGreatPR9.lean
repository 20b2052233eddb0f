import Derived.Test.YtdackeldhdchaaaGreatPR8
set_option maxRecDepth 100000
set_option maxHeartbeats 3200000
namespace Go.Proofs.YtdackeldhdchaaaGreat
open Go.RowKit Go.Maps Go.ChangeMaps Go.WideShapes
theorem Tryz.infoBoolR:(Tryz.prog.info? 4).map (fun i=>(i.zero,i.size,i.bytes))=some (some (.bool false),1,1):=by kernel_rfl
theorem GN {w1:World} {B:Nat} {x y:Value} {t:TypeId} (h:w1.heap[B]?=some (.cells #[x,y] t (0,0))) (x' y':Value) :
  ((w1.setCell ⟨B,0,none⟩ x').setCell ⟨B,1,none⟩ y').cell? ⟨B,0,none⟩=some x'/\((w1.setCell ⟨B,0,none⟩ x').setCell ⟨B,1,none⟩ y').cell? ⟨B,1,none⟩=some y':=by
 have e1:=aF (j:=0) h x';have e2:=aF (j:=1) e1 y';exact ⟨ae e2 rfl,ae e2 rfl⟩
structure lU (w w':World) (c:Value) (t:TV):Prop where
 ok:t.Ok
 row:w'.ownsRow w.heap.size 90 1 c t.ws.length (dB t.ws)
theorem lU.tin {w w':World} {c:Value} {t:TV} (h:lU w w' c t) {Z:List Nat} (hZ:∀ k,k∈Z->k<w.heap.size):fO w' Z c t :=
 ⟨h.ok,ng.of h.row,fun k hk hm=>by have:=(h.row.lt k hk).1;have:=hZ k hm;omega⟩
theorem lU.keep {w w' w2:World} {c:Value} {t:TV} (h:lU w w' c t) (u:af [] w' w2):lU w w2 c t :=
 ⟨h.ok,ah h.row fun k hk=>u.block k (h.row.lt k hk).2 (by simp)⟩
theorem lU.base {w0 w w':World} {c:Value} {t:TV} (h:lU w w' c t) (hs:w0.heap.size<=w.heap.size):lU w0 w' c t:=⟨h.ok,bW h.row hs⟩
structure lN (n:Nat) (l:List Bool) (x:Nat) (W:List Int):Prop where
 len:W.length=aX n
 u:∀ i,i<aX n->jf (W.getD i 0)
 b:∀ i,i<aX n->∀ j,nb (W.getD i 0) j=(decide (j<64)&&(decide (64*i+j<x)&&l.getD (64*i+j) false))
theorem lN.start (n:Nat) (l:List Bool):lN n l 0 (List.replicate (aX n) 0):=by
 have e:∀ i,(List.replicate (aX n) (0:Int)).getD i 0=0:=fun i=>by
  rw [List.getD_eq_getElem?_getD,List.getElem?_replicate];split <;> rfl
 exact ⟨by simp,fun i _=>by rw [e];exact NK,fun i _ j=>by rw [e,PV];simp⟩
theorem lN.skip {n:Nat} {l:List Bool} {x:Nat} {W:List Int} (h:lN n l x W) (hf:l.getD x false=false):lN n l (x+1) W:=by
 refine ⟨h.len,h.u,fun i hi j=>?_⟩;rw [h.b i hi j]
 congr 1
 by_cases e:64*i+j=x
 ·rw [e,hf];simp
 ·congr 1
  rw [decide_eq_decide];omega
theorem lN.set {n:Nat} {l:List Bool} {x:Nat} {W:List Int} (h:lN n l x W) (hx:x<2 ^ n) (hf:l.getD x false=true) :
  IntKind.u64.wrap (W.getD (x/64) 0+2 ^ (x % 64))=W.getD (x/64) 0+2 ^ (x % 64)/\lN n l (x+1) (W.set (x/64) (W.getD (x/64) 0+2 ^ (x % 64))):=by
 have hd:=jI hx;have hu:=h.u _ hd;have hb:=h.b _ hd;obtain ⟨m,hm⟩ : ∃ m:Nat,W.getD (x/64) 0=(m:Int):=⟨(W.getD (x/64) 0).toNat,by unfold jf at hu;omega⟩;rw [hm] at hu hb ⊢
 simp only [gQ] at hb
 have aZ:m<2 ^ (x % 64):=by
  apply Nat.lt_pow_two_of_testBit
  intro i hi
  rw [hb]
  have:¬ (64*(x/64)+i<x):=by omega
  simp [this]
 have hp:(2:Nat) ^ (x % 64)<=2 ^ 63:=Nat.pow_le_pow_right (by omega) (by omega)
 have hc:((m:Int)+2 ^ (x % 64))=((m+2 ^ (x % 64):Nat):Int):=by push_cast;rfl
 have acG:m.testBit (x % 64)=false:=Nat.testBit_lt_two_pow aZ
 have hU:jf ((m:Int)+2 ^ (x % 64)):=by
  rw [hc];unfold jf
  generalize (2:Nat) ^ (x % 64)=z at aZ hp ⊢;omega
 refine ⟨?_,?_⟩
 ·have e:IntKind.u64.wrap ((m:Int)+2 ^ (x % 64))=((m:Int)+2 ^ (x % 64)) % 18446744073709551616:=rfl
  rw [e];generalize ((m:Int)+2 ^ (x % 64))=z at hU
  unfold jf at hU;omega
 ·have eg:∀ i,i<aX n->(W.set (x/64) ((m:Int)+2 ^ (x % 64))).getD i 0=if i=x/64 then (m:Int)+2 ^ (x % 64) else W.getD i 0:=fun i hi=>by
   rw [List.getD_eq_getElem?_getD,List.getElem?_set]
   by_cases e:x/64=i
   ·rw [if_pos e,if_pos e.symm,if_pos (by rw [h.len];omega)];rfl
   ·rw [if_neg e,if_neg (Ne.symm e),List.getD_eq_getElem?_getD]
  refine ⟨by rw [List.length_set];exact h.len,fun i hi=>?_,fun i hi j=>?_⟩
  ·rw [eg i hi]
   split
   ·exact hU
   ·exact h.u i hi
  ·rw [eg i hi]
   by_cases e:i=x/64
   ·subst e
    rw [if_pos rfl,hc,gQ,Fv acG,hb]
    by_cases ej:j=x % 64
    ·subst ej
     have e1:64*(x/64)+x % 64=x:=by omega
     have e2:x % 64<64:=Nat.mod_lt _ (by omega)
     rw [if_pos rfl,e1,hf];simp [e2]
    ·rw [if_neg ej]
     congr 2
     rw [decide_eq_decide];omega
   ·rw [if_neg e,h.b i hi]
    by_cases hj:j<64
    ·congr 2
     rw [decide_eq_decide];omega
    ·simp [hj]
theorem lN.done {n:Nat} {l:List Bool} {W:List Int} (h:lN n l l.length W) (hn:n<=16) (hl:l.length<=2 ^ n):(⟨n,W⟩ : TV)=lW n fun x=>l.getD x false:=by
 have dY:(⟨n,W⟩ : TV).Ok:=by
  refine ⟨hn,h.len,fun x hx=>?_,fun h6 x hx i hi=>?_⟩
  ·obtain ⟨j,hj⟩:=List.getElem?_of_mem hx
   have JA:j<W.length:=by
    by_cases e:j<W.length
    ·exact e
    ·rw [show (⟨n,W⟩ : TV).ws=W from rfl,List.getElem?_eq_none (by omega)] at hj;cases hj
   have:=h.u j (by rw [<- h.len];exact JA)
   rw [List.getD_eq_getElem?_getD,hj] at this;exact this
  ·obtain ⟨j,hj⟩:=List.getElem?_of_mem hx
   have JA:j<W.length:=by
    by_cases e:j<W.length
    ·exact e
    ·rw [show (⟨n,W⟩ : TV).ws=W from rfl,List.getElem?_eq_none (by omega)] at hj;cases hj
   have:=h.b j (by rw [<- h.len];exact JA) i;rw [List.getD_eq_getElem?_getD,hj] at this;have Zt:n<6:=h6;have vW:2 ^ n<=i:=hi;have e:(some x).getD 0=x:=rfl;rw [e] at this;rw [this]
   have:¬ (64*j+i<l.length):=by omega
   simp [this]
 refine Fz dY fun x hx=>?_
 have O1:x<2 ^ n:=hx;have hd:=jI O1;unfold TV.bit
 show nb (W.getD (x/64) 0) (x % 64)=_
 rw [h.b _ hd,show 64*(x/64)+x % 64=x by omega];have e2:x % 64<64:=Nat.mod_lt _ (by omega)
 by_cases e:x<l.length
 ·simp [e,e2]
 ·have:l.getD x false=false:=by rw [List.getD_eq_getElem?_getD,List.getElem?_eq_none (by omega)];rfl
  rw [this];simp
structure sQ (w:World) (n g B:Nat) (W:List Int) (wr:World):Prop where
 row:wr.ownsRow w.heap.size 90 1 (.slice (some ⟨g,0,none⟩) (aX n) (aX n)) (aX n) (dB W)
 bx:wr.heap[B]?=some (.cells #[.int .i64 n,.slice (some ⟨g,0,none⟩) (aX n) (aX n)] 121 (0,0))
 rs:wr.heap[w.heap.size]?=some (.cells #[.int .i64 0,.slice none 0 0] 121 (0,0))
 up:af [] w wr
 gb:g≠B/\g≠w.heap.size/\B≠w.heap.size/\w.heap.size<B
theorem sQ.set {w wr:World} {n g B j:Nat} {W:List Int} (h:sQ w n g B W wr) (hj:j<aX n) (x:Int):sQ w n g B (W.set j x) (wr.setCell ⟨g,j,none⟩ (.int .u64 x)):=by
 have hg:=(h.row.lt g rfl).1;refine ⟨?_,by rw [aI h.gb.1.symm];exact h.bx,by rw [aI h.gb.2.1.symm];exact h.rs,h.up.setCell (p:=⟨g,j,none⟩) (.inr hg) _,h.gb⟩;have:=dA h.row (j:=j) (by omega) (.int .u64 x)
 have e:(dB W).set j (.int .u64 x)=dB (W.set j x):=by simp [dB,List.map_set]
 rw [<- e];exact this
theorem sQ.drew {w wr:World} {n g B:Nat} {W:List Int} (h:sQ w n g B W wr):sQ w n g B W wr.drew:=⟨h.row,h.bx,h.rs,h.up.drew,h.gb⟩
structure Bl (t:TV) (w:World) (e:Ending) (w':World):Prop where
 ex:∃ c:Value,e=.returned (bK t c)/\lU w w' c t/\af [] w w'
theorem oL (n:Nat) (l:List Bool) (lv:Value) (base:Nat) (w:World) (h:w.ownsRow base 4 1 lv l.length (l.map Value.bool)) (hn:n<=16) (hl:l.length<=2 ^ n) :
  Calls Tryz.prog 154 #[.int .i64 n,lv] w fun e w'=>Bl (lW n fun x=>l.getD x false) w e w':=by
 obtain ⟨i2,dP,dX,dV,dW⟩:=info_parts Tryz.infoU64;have HI:=Lib.hid (And.intro dP (And.intro dX (And.intro dV dW)));have A7:(2:Nat) ^ n<=2 ^ 16:=Nat.pow_le_pow_right (by omega) hn
 have aip:l.length<=65536:=by omega
 have YH:aX n<=1024:=by
  unfold aX;split
  ·omega
  ·have:(2:Nat) ^ (n-6)<=2 ^ 10:=Nat.pow_le_pow_right (by omega) (by omega)
   omega
 obtain ⟨fa,fc,rfl,_⟩:=aC h;have HR:=Lib.hid h;have HL:=Lib.hid (And.intro hn hl);clear h dP dX dV dW A7 hl
 go_enter Tryz.func154,Tryz.ntmps154
 go_wp2_with fail;refine (wU n _ HL.out.1).mono ?_;rintro e w1 ⟨rfl,rfl⟩;have HZ:=Lib.hid (heap_alloc_new w (.cells #[.int .i64 0,.slice none 0 0] 121 (0,0)))
 have df:(w.alloc (.cells #[.int .i64 0,.slice none 0 0] 121 (0,0))).heap.size=w.heap.size+1:=by rw [World.size_alloc]
 obtain ⟨N,hN⟩ : ∃ N,aX n=N:=⟨_,rfl⟩;rw [hN] at YH;have HN:=Lib.hid hN
 simp only [hN]
 clear hN
 go_wp2_with (refine wpList_make_full _ rfl (.tmp 9) (.tmp 9) 68 rfl w.heap.size 90 i2 (.int .u64 0) 1 Tryz.underlying68 HI.out.1 HI.out.2.1 HI.out.2.2.1 .i64 .i64 _ _ N rfl rfl rfl rfl (by rw [HI.out.2.2.2];omega) (by unfold maxLen;omega) (by rw [df];omega) ?_)
 intro w2 ho bU
 obtain ⟨g,hg⟩ : ∃ g,w.heap.size+1=g:=⟨_,rfl⟩;rw [hg] at ho;rw [hg];have dV:=bU.size;rw [df] at dV
 have DL:Hid (sQ w n g w2.heap.size (List.replicate (aX n) 0) (w2.alloc (.cells #[.int .i64 n,.slice (some ⟨g,0,none⟩) N N] 121 (0,0)))):=by
  have hu:af [] w w2:=((af.refl [] w).alloc _).grown bU (by simp);have ER:=(ho.lt g rfl).2
  have er:(w2.heap[w.heap.size]?)=some (.cells #[.int .i64 0,.slice none 0 0] 121 (0,0)):=by
   rw [bU.block w.heap.size (by rw [df];omega) (by simp)];exact HZ.out
  refine ⟨?_,?_,?_,hu.alloc _,by omega,by omega,by omega,by omega⟩
  ·rw [HN.out]
   have e:dB (List.replicate N 0)=(madeCells #[Value.int .u64 0] N).toList:=by
    rw [dB,List.map_replicate];exact (NC N).symm
   rw [e];exact ho.alloc _
  ·rw [HN.out];exact heap_alloc_new w2 _
  ·rw [Below.heap_alloc _ _ _ (aj er)];exact er
 have HFI:=Lib.hid (lN.start n l);obtain ⟨B,hB⟩ : ∃ B,w2.heap.size=B:=⟨_,rfl⟩;rw [hB] at DL;have HBe:=Lib.hid hB;have hgb:=DL.out.gb;clear ho bU dV df HZ hg hB;go_wp2_with fail;rw [HBe.out]
 go_loopg [6] l.length (fun gg s6 wr=>∃ (x:Nat) (W:List Int),l.length-x=gg/\x<=l.length/\s6=.int .i64 x/\lN n l x W/\sQ w n g B W wr)
 case atStart=>exact ⟨0,_,by omega,by omega,rfl,HFI.out,DL.out⟩
 case round =>
  obtain ⟨x,W,rfl,hx,rfl,hI,hM⟩:=hrel;have bf:=hM.bx;rw [HN.out] at bf;have y0:wr.cell? ⟨B,0,none⟩=some (.int .i64 n):=ae (j:=0) bf rfl;have y1:wr.cell? ⟨B,1,none⟩=some (.slice (some ⟨g,0,none⟩) N N):=ae (j:=1) bf rfl
  by_cases aZ:x<l.length
  ·have fE:(x:Int)<(l.length:Int):=by omega
   obtain ⟨ga,rfl⟩:=bY HR.out (by omega)
   have hr:=ah HR.out fun k hk=>hM.up.block k (HR.out.lt k hk).2 (by simp)
   have e0:l[x]?=some (l.getD x false):=by rw [List.getD_eq_getElem?_getD,List.getElem?_eq_getElem aZ];rfl
   have cl:=ax hr (j:=x) (u:=.bool (l.getD x false)) (by rw [List.getElem?_map,e0];rfl);have Zu:x<2 ^ n:=Nat.lt_of_lt_of_le aZ HL.out.2;have hd:=jI Zu;clear hr e0 bf
   cases hb:l.getD x false with
   | false =>
    rw [hb] at cl;have HE:=Lib.hid (And.intro (hI.skip hb) hM);clear hI hM hb Zu hd;go_wp2_with fail
    go_roundg (l.length-(x+1))
    case measure=>omega
    case rel=>exact ⟨x+1,W,rfl,by omega,by simp,HE.out⟩
   | true =>
    rw [hb] at cl;obtain ⟨s1,s2⟩:=hI.set Zu hb
    have DR:(x:Int).tdiv 64=((x/64:Nat):Int):=by rw [Int.tdiv_eq_ediv_of_nonneg (by omega)];omega
    have rH:(x:Int).tmod 64=((x % 64:Nat):Int):=by rw [Int.tmod_eq_emod_of_nonneg (by omega)];omega
    have oP:((x % 64:Nat):Int)<64:=by omega
    have UB:x % 64<64:=by omega
    have e1:W[x/64]?=some (W.getD (x/64) 0):=by rw [List.getD_eq_getElem?_getD,List.getElem?_eq_getElem (by rw [hI.len];exact hd)];rfl
    have aB:=hM.row;rw [HN.out] at aB;have cw:=ax aB (j:=x/64) (u:=.int .u64 (W.getD (x/64) 0)) (by rw [dB,List.getElem?_map,e1];rfl);have fw:=aS aB (x/64)
    have hdN:((x/64:Nat):Int)<(N:Int):=by rw [HN.out] at hd;omega
    have hp:IntKind.u64.wrap (2 ^ (x % 64))=2 ^ (x % 64):=by
     have h1:(2:Nat) ^ (x % 64)<=2 ^ 63:=Nat.pow_le_pow_right (by omega) (by omega)
     have h2:((2:Int) ^ (x % 64))=((2 ^ (x % 64):Nat):Int):=by push_cast;rfl
     have e:IntKind.u64.wrap ((2:Int) ^ (x % 64))=(2:Int) ^ (x % 64) % 18446744073709551616:=rfl;rw [e,h2];generalize (2:Nat) ^ (x % 64)=z at h1;omega
    have HE:=Lib.hid (And.intro s2 (hM.set hd (W.getD (x/64) 0+2 ^ (x % 64))));generalize W.getD (x/64) 0=V at cw HE s1;generalize hP:(2:Int) ^ (x % 64)=P at hp s1 HE;have HP:=Lib.hid (show IntKind.u64.wrap (V+IntKind.u64.wrap ((2:Int) ^ (x % 64)))=V+P by rw [hP,hp,s1]);clear hP hp s1;generalize x/64=xq at *;clear hI hM hb Zu hd s2 e1 aB;go_wp2_with fail
    go_region
    go_wp2_with fail
    go_roundg (l.length-(x+1))
    case measure=>omega
    case rel=>exact ⟨x+1,_,rfl,by omega,by simp,HE.out.1,by rw [HP.out];exact HE.out.2.drew⟩
  ·obtain rfl:x=l.length:=by omega
   have fE:¬ ((l.length:Int)<(l.length:Int)):=by omega
   have rU:=hM.rs;have z0:wr.cell? ⟨w.heap.size,0,none⟩=some (.int .i64 0):=ae (j:=0) rU rfl;have z1:wr.cell? ⟨w.heap.size,1,none⟩=some (.slice none 0 0):=ae (j:=1) rU rfl;have f0:=ak 0 rU;have f1:=ak 1 rU;have HE:=Lib.hid (And.intro hI hM);clear hI hM bf rU;go_wp2_with fail;obtain ⟨b0,b1⟩:=GN HE.out.2.rs (.int .i64 n) (.slice (some ⟨g,0,none⟩) N N);refine bodyPost_ret (v:=.agg #[.int .i64 n,.slice (some ⟨g,0,none⟩) N N]) (by simp [results,Tryz.results154,go_sem,b0,b1]) rfl ?_;have hd:=HE.out.1.done HL.out.1 HL.out.2;have aB:=HE.out.2.row;rw [HN.out] at aB
   have hlen:W.length=N:=by rw [HE.out.1.len,HN.out]
   have nT:wr.ownsRow w.heap.size 90 1 (.slice (some ⟨g,0,none⟩) N N) (⟨n,W⟩ : TV).ws.length (dB (⟨n,W⟩ : TV).ws):=by
    show wr.ownsRow _ _ _ _ W.length (dB W)
    rw [hlen];exact aB
   have hu:=(HE.out.2.up.setCell (p:=⟨w.heap.size,0,none⟩) (.inr (Nat.le_refl _)) (.int .i64 n)).setCell (p:=⟨w.heap.size,1,none⟩) (.inr (Nat.le_refl _)) (.slice (some ⟨g,0,none⟩) N N);have D9:=HE.out.2.gb.2.1;have r1:=aV nT (a:=⟨w.heap.size,0,none⟩) (by simpa [Value.ownBlock] using Ne.symm D9) (.int .i64 n);have r2:=aV r1 (a:=⟨w.heap.size,1,none⟩) (by simpa [Value.ownBlock] using Ne.symm D9) (.slice (some ⟨g,0,none⟩) N N);rw [hd] at r2;exact ⟨_,rfl,⟨jw _ HL.out.1,r2⟩,hu⟩
def bz (f:Nat->Bool) (m i:Nat):List Bool:=(List.range m).map fun x=>decide (x<i)&&f x
theorem eX (f:Nat->Bool) (m i:Nat):(bz f m i).length=m:=by simp [bz]
theorem mQ (f:Nat->Bool) (m:Nat):bz f m 0=List.replicate m false:=by
 apply List.ext_getElem?
 intro j
 by_cases h:j<m
 ·simp [bz,h]
 ·simp [bz,h]
theorem oK (f:Nat->Bool) {m i:Nat} (_hi:i<m):(bz f m i).set i (f i)=bz f m (i+1):=by
 apply List.ext_getElem?
 intro j
 rw [List.getElem?_set]
 by_cases h:j<m
 ·by_cases e:i=j
  ·subst e;simp [bz,h]
  ·rw [if_neg e]
   simp only [bz,List.getElem?_map,List.getElem?_range h,Option.map_some]
   congr 2
   rw [decide_eq_decide];omega
 ·by_cases e:i=j
  ·omega
  ·rw [if_neg e];simp [bz,h]
theorem FB (f:Nat->Bool) {m x:Nat} (hx:x<m):(bz f m m).getD x false=f x:=by
 rw [List.getD_eq_getElem?_getD];simp [bz,hx]
theorem Kv (n:Nat):(madeCells #[Value.bool false] n).toList=List.replicate n (Value.bool false):=by
 apply List.ext_getElem?
 intro i
 by_cases hi:i<n
 ·simp [madeCells,hi,Nat.mod_one]
 ·simp [madeCells,hi]
structure iK (w:World) (g B m:Nat) (l:List Bool) (wr:World):Prop where
 row:wr.ownsRow w.heap.size 4 1 (.slice (some ⟨g,0,none⟩) m m) m (l.map Value.bool)
 rs:wr.heap[B]?=some (.cells #[.int .i64 0,.slice none 0 0] 121 (0,0))
 up:af [] w wr
 bw:w.heap.size<=B/\g≠B
theorem iK.set {w wr:World} {g B m j:Nat} {l:List Bool} (h:iK w g B m l wr) (hj:j<m) (b:Bool):iK w g B m (l.set j b) (wr.setCell ⟨g,j,none⟩ (.bool b)):=by
 have hg:=(h.row.lt g rfl).1;refine ⟨?_,by rw [aI h.bw.2.symm];exact h.rs,h.up.setCell (p:=⟨g,j,none⟩) (.inr hg) _,h.bw⟩;have:=dA h.row (j:=j) (by omega) (.bool b)
 rw [List.map_set];exact this
theorem Ja {n:Nat} {f g:Nat->Bool} (h:∀ x,x<2 ^ n->f x=g x):lW n f=lW n g:=by
 have key:∀ i:Nat,(fun j=>decide (64*i+j<2 ^ n)&&f (64*i+j))=(fun j=>decide (64*i+j<2 ^ n)&&g (64*i+j)):=fun i=>by
  funext j
  by_cases hx:64*i+j<2 ^ n
  ·rw [h _ hx]
  ·rw [decide_eq_false hx];rfl
 exact congrArg (TV.mk n) (List.map_congr_left fun i _=>congrArg (fun z:Nat=>(z:Int)) (congrArg (idx 64) (key i)))
theorem qU (n m:Nat) (hm:2 ^ n=m) (f:Nat->Bool):(lW n fun x=>(bz f m m).getD x false)=lW n f:=by
 subst hm
 apply Ja
 intro x hx
 exact FB f hx
theorem mM (n:Nat) (b:Bool) (w:World) (hn:n<=16):Calls Tryz.prog 90 #[.int .i64 n,.bool b] w fun e w'=>Bl (jA n b) w e w':=by
 obtain ⟨i2,dP,dX,dV,dW⟩:=info_parts Tryz.infoBoolR;have HI:=Lib.hid (And.intro dP (And.intro dX (And.intro dV dW)));have A7:(2:Nat) ^ n<=2 ^ 16:=Nat.pow_le_pow_right (by omega) hn
 have Wj:(n:Int)<64:=by omega
 have Jh:wrap64 (2 ^ n)=((2 ^ n:Nat):Int):=by
  have h2:((2:Int) ^ n)=((2 ^ n:Nat):Int):=by push_cast;rfl
  rw [h2];generalize (2:Nat) ^ n=z at A7
  unfold wrap64;omega
 obtain ⟨m,hm⟩ : ∃ m,2 ^ n=m:=⟨_,rfl⟩;rw [hm] at A7 Jh;have BP:=Lib.hid (And.intro hm (And.intro hn Jh));clear dP dX dV dW hm hn Jh
 go_enter Tryz.func90,Tryz.ntmps90
 have HZ:=Lib.hid (heap_alloc_new w (.cells #[.int .i64 0,.slice none 0 0] 121 (0,0)))
 go_wp2_with (refine wpList_make_full _ rfl (.tmp 8) (.tmp 8) 75 rfl w.heap.size 4 i2 (.bool false) 1 Tryz.underlying75 HI.out.1 HI.out.2.1 HI.out.2.2.1 .i64 .i64 _ _ m rfl rfl BP.out.2.2 BP.out.2.2 (by rw [HI.out.2.2.2];omega) (by unfold maxLen;omega) (by rw [World.size_alloc];omega) ?_)
 intro w2 ho bU
 have df:(w.alloc (.cells #[.int .i64 0,.slice none 0 0] 121 (0,0))).heap.size=w.heap.size+1:=by rw [World.size_alloc]
 obtain ⟨g,hg⟩ : ∃ g,w.heap.size+1=g:=⟨_,rfl⟩;rw [hg] at ho;rw [hg]
 have DL:Hid (iK w g w.heap.size m (bz (fun _=>b) m 0) w2):=by
  have hu:af [] w w2:=((af.refl [] w).alloc _).grown bU (by simp)
  have er:(w2.heap[w.heap.size]?)=some (.cells #[.int .i64 0,.slice none 0 0] 121 (0,0)):=by
   rw [bU.block w.heap.size (by rw [df];omega) (by simp)];exact HZ.out
  refine ⟨?_,er,hu,by omega,by omega⟩;rw [mQ]
  have e:(List.replicate m false).map Value.bool=(madeCells #[Value.bool false] m).toList:=by
   rw [List.map_replicate];exact (Kv m).symm
  rw [e];exact ho
 clear ho bU df HZ hg;go_wp2_with fail
 go_loopg [6] m (fun gg s6 wr=>∃ x:Nat,m-x=gg/\x<=m/\s6=.int .i64 x/\iK w g w.heap.size m (bz (fun _=>b) m x) wr)
 case atStart=>exact ⟨0,by omega,by omega,rfl,DL.out⟩
 case round =>
  obtain ⟨x,rfl,hx,rfl,hM⟩:=hrel
  by_cases aZ:x<m
  ·have fE:(x:Int)<(m:Int):=by omega
   have e0:(bz (fun _=>b) m x)[x]?=some ((bz (fun _=>b) m x).getD x false):=by rw [List.getD_eq_getElem?_getD,List.getElem?_eq_getElem (by rw [eX];exact aZ)];rfl
   have cx:=ax hM.row (j:=x) (u:=.bool ((bz (fun _=>b) m x).getD x false)) (by rw [List.getElem?_map,e0];rfl);have fx:=aS hM.row x;have kU:=hM.set aZ (b);rw [show (b)=((fun _=>b) x) from rfl,oK _ aZ] at kU;have HE:=Lib.hid kU;clear hM kU e0;go_wp2_with fail
   go_roundg (m-(x+1))
   case measure=>omega
   case rel=>exact ⟨x+1,rfl,by omega,by simp,HE.out⟩
  ·obtain rfl:x=m:=by omega
   have fE:¬ ((x:Int)<(x:Int)):=by omega
   have HM:=Lib.hid hM
   have aB:wr.ownsRow w.heap.size 4 1 (.slice (some ⟨g,0,none⟩) x x) (bz (fun _=>b) x x).length ((bz (fun _=>b) x x).map Value.bool):=by rw [eX];exact hM.row
   have Qq:=Lib.hid aB;clear hM aB;go_wp2_with fail;refine (oL n (bz (fun _=>b) x x) _ w.heap.size wr Qq.out BP.out.2.1 (by rw [eX,BP.out.1];omega)).mono ?_;rintro e w3 hE;obtain ⟨c,rfl,hT,hu⟩:=hE.ex;rw [qU n x BP.out.1] at hT;have df:=HM.out.up.size;have rU:=(hu.block w.heap.size (aj HM.out.rs) (by simp)).trans HM.out.rs;have z0:w3.cell? ⟨w.heap.size,0,none⟩=some (.int .i64 0):=ae (j:=0) rU rfl;have z1:w3.cell? ⟨w.heap.size,1,none⟩=some (.slice none 0 0):=ae (j:=1) rU rfl;have f0:=ak 0 rU;have f1:=ak 1 rU;obtain ⟨ca,cn,hc,_⟩:=fP hT.row;have HE:=Lib.hid (And.intro hT (And.intro (HM.out.up.trans hu) rU));have HC:=Lib.hid hc;clear hE hT hu rU hc Qq
   simp only [bK,F6]
   rw [HC.out];go_wp2_with fail;obtain ⟨b0,b1⟩:=GN HE.out.2.2 (.int .i64 n) (.slice ca (lW n (fun _=>b)).ws.length cn);refine bodyPost_end (v:=.agg #[.int .i64 n,.slice ca (lW n (fun _=>b)).ws.length cn]) (by simp [results,Tryz.results90,go_sem,b0,b1]) rfl ?_;have hu:=(HE.out.2.1.setCell (p:=⟨w.heap.size,0,none⟩) (.inr (Nat.le_refl _)) (.int .i64 n)).setCell (p:=⟨w.heap.size,1,none⟩) (.inr (Nat.le_refl _)) (.slice ca (lW n (fun _=>b)).ws.length cn)
   have hne:some w.heap.size≠c.ownBlock:=fun e=>by
    have h1:=(HE.out.1.row.lt w.heap.size e.symm).1;have h2:=aj HM.out.rs;omega
   have r1:=aV HE.out.1.row (a:=⟨w.heap.size,0,none⟩) hne (.int .i64 n);have r2:=aV r1 (a:=⟨w.heap.size,1,none⟩) hne (.slice ca (lW n (fun _=>b)).ws.length cn);refine ⟨c,by rw [HC.out];rfl,⟨HE.out.1.ok,bW r2 df⟩,hu⟩
theorem Jb (n v:Nat) (w:World) (hn:n<=16) (hv:v<64):Calls Tryz.prog 170 #[.int .i64 n,.int .i64 v] w fun e w'=>Bl (NJ n v) w e w':=by
 obtain ⟨i2,dP,dX,dV,dW⟩:=info_parts Tryz.infoBoolR;have HI:=Lib.hid (And.intro dP (And.intro dX (And.intro dV dW)));have A7:(2:Nat) ^ n<=2 ^ 16:=Nat.pow_le_pow_right (by omega) hn
 have Wj:(n:Int)<64:=by omega
 have Sv:(v:Int)<64:=by omega
 have Jh:wrap64 (2 ^ n)=((2 ^ n:Nat):Int):=by
  have h2:((2:Int) ^ n)=((2 ^ n:Nat):Int):=by push_cast;rfl
  rw [h2];generalize (2:Nat) ^ n=z at A7
  unfold wrap64;omega
 obtain ⟨m,hm⟩ : ∃ m,2 ^ n=m:=⟨_,rfl⟩;rw [hm] at A7 Jh;have BP:=Lib.hid (And.intro hm (And.intro hn Jh));clear dP dX dV dW hm hn Jh
 go_enter Tryz.func170,Tryz.ntmps170
 have HZ:=Lib.hid (heap_alloc_new w (.cells #[.int .i64 0,.slice none 0 0] 121 (0,0)))
 go_wp2_with (refine wpList_make_full _ rfl (.tmp 8) (.tmp 8) 75 rfl w.heap.size 4 i2 (.bool false) 1 Tryz.underlying75 HI.out.1 HI.out.2.1 HI.out.2.2.1 .i64 .i64 _ _ m rfl rfl BP.out.2.2 BP.out.2.2 (by rw [HI.out.2.2.2];omega) (by unfold maxLen;omega) (by rw [World.size_alloc];omega) ?_)
 intro w2 ho bU
 have df:(w.alloc (.cells #[.int .i64 0,.slice none 0 0] 121 (0,0))).heap.size=w.heap.size+1:=by rw [World.size_alloc]
 obtain ⟨g,hg⟩ : ∃ g,w.heap.size+1=g:=⟨_,rfl⟩;rw [hg] at ho;rw [hg]
 have DL:Hid (iK w g w.heap.size m (bz (fun x=>x.testBit v) m 0) w2):=by
  have hu:af [] w w2:=((af.refl [] w).alloc _).grown bU (by simp)
  have er:(w2.heap[w.heap.size]?)=some (.cells #[.int .i64 0,.slice none 0 0] 121 (0,0)):=by
   rw [bU.block w.heap.size (by rw [df];omega) (by simp)];exact HZ.out
  refine ⟨?_,er,hu,by omega,by omega⟩;rw [mQ]
  have e:(List.replicate m false).map Value.bool=(madeCells #[Value.bool false] m).toList:=by
   rw [List.map_replicate];exact (Kv m).symm
  rw [e];exact ho
 clear ho bU df HZ hg;go_wp2_with fail
 go_loopg [6] m (fun gg s6 wr=>∃ x:Nat,m-x=gg/\x<=m/\s6=.int .i64 x/\iK w g w.heap.size m (bz (fun x=>x.testBit v) m x) wr)
 case atStart=>exact ⟨0,by omega,by omega,rfl,DL.out⟩
 case round =>
  obtain ⟨x,rfl,hx,rfl,hM⟩:=hrel
  by_cases aZ:x<m
  ·have fE:(x:Int)<(m:Int):=by omega
   have e0:(bz (fun x=>x.testBit v) m x)[x]?=some ((bz (fun x=>x.testBit v) m x).getD x false):=by rw [List.getD_eq_getElem?_getD,List.getElem?_eq_getElem (by rw [eX];exact aZ)];rfl
   have cx:=ax hM.row (j:=x) (u:=.bool ((bz (fun x=>x.testBit v) m x).getD x false)) (by rw [List.getElem?_map,e0];rfl);have fx:=aS hM.row x;have kU:=hM.set aZ (x.testBit v);rw [show (x.testBit v)=((fun x=>x.testBit v) x) from rfl,oK _ aZ] at kU;have HE:=Lib.hid kU
   have Su:Hid ((((x:Int)/2 ^ v).tmod 2 == 1)=x.testBit v):=by
    show _=_
    have:=vH (x:=(x:Int)) (by unfold jf;omega) v;rw [this,gQ]
   clear hM kU e0;go_wp2_with fail
   go_roundg (m-(x+1))
   case measure=>omega
   case rel=>exact ⟨x+1,rfl,by omega,by simp,by rw [<- Su.out] at HE;exact HE.out⟩
  ·obtain rfl:x=m:=by omega
   have fE:¬ ((x:Int)<(x:Int)):=by omega
   have HM:=Lib.hid hM
   have aB:wr.ownsRow w.heap.size 4 1 (.slice (some ⟨g,0,none⟩) x x) (bz (fun x=>x.testBit v) x x).length ((bz (fun x=>x.testBit v) x x).map Value.bool):=by rw [eX];exact hM.row
   have Qq:=Lib.hid aB;clear hM aB;go_wp2_with fail;refine (oL n (bz (fun x=>x.testBit v) x x) _ w.heap.size wr Qq.out BP.out.2.1 (by rw [eX,BP.out.1];omega)).mono ?_;rintro e w3 hE;obtain ⟨c,rfl,hT,hu⟩:=hE.ex;rw [qU n x BP.out.1] at hT;have df:=HM.out.up.size;have rU:=(hu.block w.heap.size (aj HM.out.rs) (by simp)).trans HM.out.rs;have z0:w3.cell? ⟨w.heap.size,0,none⟩=some (.int .i64 0):=ae (j:=0) rU rfl;have z1:w3.cell? ⟨w.heap.size,1,none⟩=some (.slice none 0 0):=ae (j:=1) rU rfl;have f0:=ak 0 rU;have f1:=ak 1 rU;obtain ⟨ca,cn,hc,_⟩:=fP hT.row;have HE:=Lib.hid (And.intro hT (And.intro (HM.out.up.trans hu) rU));have HC:=Lib.hid hc;clear hE hT hu rU hc Qq
   simp only [bK,F6]
   rw [HC.out];go_wp2_with fail;obtain ⟨b0,b1⟩:=GN HE.out.2.2 (.int .i64 n) (.slice ca (lW n (fun x=>x.testBit v)).ws.length cn);refine bodyPost_end (v:=.agg #[.int .i64 n,.slice ca (lW n (fun x=>x.testBit v)).ws.length cn]) (by simp [results,Tryz.results170,go_sem,b0,b1]) rfl ?_;have hu:=(HE.out.2.1.setCell (p:=⟨w.heap.size,0,none⟩) (.inr (Nat.le_refl _)) (.int .i64 n)).setCell (p:=⟨w.heap.size,1,none⟩) (.inr (Nat.le_refl _)) (.slice ca (lW n (fun x=>x.testBit v)).ws.length cn)
   have hne:some w.heap.size≠c.ownBlock:=fun e=>by
    have h1:=(HE.out.1.row.lt w.heap.size e.symm).1;have h2:=aj HM.out.rs;omega
   have r1:=aV HE.out.1.row (a:=⟨w.heap.size,0,none⟩) hne (.int .i64 n);have r2:=aV r1 (a:=⟨w.heap.size,1,none⟩) hne (.slice ca (lW n (fun x=>x.testBit v)).ws.length cn);refine ⟨c,by rw [HC.out];rfl,⟨HE.out.1.ok,bW r2 df⟩,hu⟩
theorem acH (x:Int) (a:Option Addr) (n c:Nat) (w:World):(Instr.field 121 (.agg #[.int .i64 x,.slice a n c]) 1).run Tryz.prog w=.ok (.slice a n c) w:=by kernel_rfl
def gB (F:Nat->Int) (m i:Nat):List Int:=(List.range m).map fun x=>if x<i then F x else 0
theorem qJ (F:Nat->Int) (m i:Nat):(gB F m i).length=m:=by simp [gB]
theorem uJ (F:Nat->Int) (m:Nat):gB F m 0=List.replicate m 0:=by
 apply List.ext_getElem?
 intro j
 by_cases h:j<m
 ·simp [gB,h]
 ·simp [gB,h]
theorem yF (F:Nat->Int) {m i:Nat} (_hi:i<m):(gB F m i).set i (F i)=gB F m (i+1):=by
 apply List.ext_getElem?
 intro j
 rw [List.getElem?_set]
 by_cases h:j<m
 ·by_cases e:i=j
  ·subst e;simp [gB,h]
  ·rw [if_neg e]
   simp only [gB,List.getElem?_map,List.getElem?_range h,Option.map_some]
   by_cases h2:j<i
   ·rw [if_pos h2,if_pos (by omega)]
   ·rw [if_neg h2,if_neg (by omega)]
 ·by_cases e:i=j
  ·omega
  ·rw [if_neg e];simp [gB,h]
theorem Jc (f:Int->Int) (l:List Int) {m:Nat} (h:l.length=m):gB (fun i=>f (l.getD i 0)) m m=l.map f:=by
 apply List.ext_getElem?
 intro j
 by_cases hj:j<m
 ·have e:l[j]?=some (l.getD j 0):=by rw [List.getD_eq_getElem?_getD,List.getElem?_eq_getElem (by omega)];rfl
  rw [List.getElem?_map,e]
  simp only [gB,List.getElem?_map,List.getElem?_range hj,Option.map_some]
  rw [if_pos hj]
 ·rw [List.getElem?_eq_none (by rw [qJ];omega),List.getElem?_eq_none (by rw [List.length_map];omega)]
structure xA (w:World) (n L g B:Nat) (x:Value) (W:List Int) (wr:World):Prop where
 row:wr.ownsRow w.heap.size 90 1 (.slice (some ⟨g,0,none⟩) L L) L (dB W)
 bx:wr.heap[B]?=some (.cells #[.int .i64 n,.slice (some ⟨g,0,none⟩) L L] 121 (0,0))
 rs:wr.heap[w.heap.size+1]?=some (.cells #[.int .i64 0,.slice none 0 0] 121 (0,0))
 tb:wr.heap[w.heap.size]?=some (.cells #[.int .i64 n,x] 121 (0,0))
 up:af [] w wr
 ne:g≠B/\g≠w.heap.size+1/\g≠w.heap.size/\B≠w.heap.size+1/\B≠w.heap.size/\w.heap.size<=B
theorem JJ (w:World) (x y:Value) {wa:World} (h:((w.alloc (.cells #[x,y] 121 (0,0))).alloc (.cells #[.int .i64 0,.slice none 0 0] 121 (0,0))).drew.grownBy wa none) :
  af [] w wa/\wa.heap[w.heap.size]?=some (.cells #[x,y] 121 (0,0))/\wa.heap[w.heap.size+1]?=some (.cells #[.int .i64 0,.slice none 0 0] 121 (0,0))/\((w.alloc (.cells #[x,y] 121 (0,0))).alloc (.cells #[.int .i64 0,.slice none 0 0] 121 (0,0))).drew.heap.size=w.heap.size+1+1:=by
 have e:((w.alloc (.cells #[x,y] 121 (0,0))).alloc (.cells #[.int .i64 0,.slice none 0 0] 121 (0,0))).drew.heap.size=w.heap.size+1+1:=by
  show ((w.alloc _).alloc _).heap.size=_
  rw [World.size_alloc,World.size_alloc]
 have u0:=(af.refl [] w).alloc (.cells #[x,y] 121 (0,0));have u1:=(af.refl [] (w.alloc (.cells #[x,y] 121 (0,0)))).alloc (.cells #[.int .i64 0,.slice none 0 0] 121 (0,0));have n1:=heap_alloc_new (w.alloc (.cells #[x,y] 121 (0,0))) (.cells #[.int .i64 0,.slice none 0 0] 121 (0,0));rw [World.size_alloc] at n1;have n0:=(u1.block _ (aj (heap_alloc_new w (.cells #[x,y] 121 (0,0)))) (by simp)).trans (heap_alloc_new w _);refine ⟨((u0.trans u1).drew).grown h (by simp),?_,?_,e⟩
 ·rw [h.block w.heap.size (by rw [e];omega) (by simp)];exact n0
 ·rw [h.block (w.heap.size+1) (by rw [e];omega) (by simp)];exact n1
theorem JK (w:World) (x y:Value) {wb:World} (h:(((w.alloc (.cells #[x,y] 121 (0,0))).alloc (.cells #[.int .i64 0,.slice none 0 0] 121 (0,0))).alloc (.cells #[.int .i64 0,.slice none 0 0] 121 (0,0))).drew.grownBy wb none) :
  af [] w wb/\wb.heap[w.heap.size]?=some (.cells #[x,y] 121 (0,0))/\wb.heap[w.heap.size+1]?=some (.cells #[.int .i64 0,.slice none 0 0] 121 (0,0))/\wb.heap[w.heap.size+1+1]?=some (.cells #[.int .i64 0,.slice none 0 0] 121 (0,0))/\(((w.alloc (.cells #[x,y] 121 (0,0))).alloc (.cells #[.int .i64 0,.slice none 0 0] 121 (0,0))).alloc (.cells #[.int .i64 0,.slice none 0 0] 121 (0,0))).drew.heap.size=w.heap.size+1+1+1:=by
 have e0:((w.alloc (.cells #[x,y] 121 (0,0))).alloc (.cells #[.int .i64 0,.slice none 0 0] 121 (0,0))).heap.size=w.heap.size+1+1:=by
  rw [World.size_alloc,World.size_alloc]
 have e:(((w.alloc (.cells #[x,y] 121 (0,0))).alloc (.cells #[.int .i64 0,.slice none 0 0] 121 (0,0))).alloc (.cells #[.int .i64 0,.slice none 0 0] 121 (0,0))).drew.heap.size=w.heap.size+1+1+1:=by
  show (((w.alloc _).alloc _).alloc _).heap.size=_
  rw [World.size_alloc,World.size_alloc,World.size_alloc]
 have u0:=(af.refl [] w).alloc (.cells #[x,y] 121 (0,0));have u1:=(af.refl [] (w.alloc (.cells #[x,y] 121 (0,0)))).alloc (.cells #[.int .i64 0,.slice none 0 0] 121 (0,0));have u2:=(af.refl [] ((w.alloc (.cells #[x,y] 121 (0,0))).alloc (.cells #[.int .i64 0,.slice none 0 0] 121 (0,0)))).alloc (.cells #[.int .i64 0,.slice none 0 0] 121 (0,0));have n1:=heap_alloc_new (w.alloc (.cells #[x,y] 121 (0,0))) (.cells #[.int .i64 0,.slice none 0 0] 121 (0,0));have n1':=(u2.block _ (aj n1) (by simp)).trans n1;rw [World.size_alloc] at n1';have n0:=(u1.block _ (aj (heap_alloc_new w (.cells #[x,y] 121 (0,0)))) (by simp)).trans (heap_alloc_new w _);have n0':=(u2.block _ (aj n0) (by simp)).trans n0;have n2:=heap_alloc_new ((w.alloc (.cells #[x,y] 121 (0,0))).alloc (.cells #[.int .i64 0,.slice none 0 0] 121 (0,0))) (.cells #[.int .i64 0,.slice none 0 0] 121 (0,0));rw [e0] at n2;refine ⟨(((u0.trans u1).trans u2).drew).grown h (by simp),?_,?_,?_,e⟩
 ·rw [h.block w.heap.size (by rw [e];omega) (by simp)];exact n0'
 ·rw [h.block (w.heap.size+1) (by rw [e];omega) (by simp)];exact n1'
 ·rw [h.block (w.heap.size+1+1) (by rw [e];omega) (by simp)];exact n2
theorem JL {w wa:World} {n L:Nat} {x:Value} (u:af [] w wa) (a1:wa.heap[w.heap.size]?=some (.cells #[.int .i64 n,x] 121 (0,0))) (a2:wa.heap[w.heap.size+1]?=some (.cells #[.int .i64 0,.slice none 0 0] 121 (0,0)))
  (oa:wa.ownsRow w.heap.size 90 1 (.slice (some ⟨w.heap.size+1+1,0,none⟩) L L) L (madeCells #[Value.int .u64 0] L).toList) :
  xA w n L (w.heap.size+1+1) wa.heap.size x (List.replicate L 0) (wa.alloc (.cells #[.int .i64 n,.slice (some ⟨w.heap.size+1+1,0,none⟩) L L] 121 (0,0))):=by
 have hg:w.heap.size+1+1<wa.heap.size:=(oa.lt _ rfl).2
 have e:dB (List.replicate L 0)=(madeCells #[Value.int .u64 0] L).toList:=by rw [dB,List.map_replicate];exact (NC L).symm
 refine ⟨by rw [e];exact oa.alloc _,heap_alloc_new wa _,?_,?_,u.alloc _,by omega,by omega,by omega,by omega,by omega,by omega⟩
 ·rw [Below.heap_alloc _ _ _ (aj a2)];exact a2
 ·rw [Below.heap_alloc _ _ _ (aj a1)];exact a1
theorem JM {w wb:World} {n L:Nat} {x:Value} (u:af [] w wb) (b1:wb.heap[w.heap.size]?=some (.cells #[.int .i64 n,x] 121 (0,0))) (b2:wb.heap[w.heap.size+1]?=some (.cells #[.int .i64 0,.slice none 0 0] 121 (0,0))) (b3:wb.heap[w.heap.size+1+1]?=some (.cells #[.int .i64 0,.slice none 0 0] 121 (0,0)))
  (ob:wb.ownsRow w.heap.size 90 1 (.slice (some ⟨w.heap.size+1+1+1,0,none⟩) L L) L (madeCells #[Value.int .u64 0] L).toList) :
  xA w n L (w.heap.size+1+1+1) (w.heap.size+1+1) x (List.replicate L 0) ((wb.setCell ⟨w.heap.size+1+1,0,none⟩ (.int .i64 n)).setCell ⟨w.heap.size+1+1,1,none⟩ (.slice (some ⟨w.heap.size+1+1+1,0,none⟩) L L)):=by
 have e:dB (List.replicate L 0)=(madeCells #[Value.int .u64 0] L).toList:=by rw [dB,List.map_replicate];exact (NC L).symm
 have h1:=aF (j:=0) b3 (.int .i64 n);have h2:=aF (j:=1) h1 (.slice (some ⟨w.heap.size+1+1+1,0,none⟩) L L);refine ⟨?_,h2,?_,?_,(u.setCell (p:=⟨w.heap.size+1+1,0,none⟩) (.inr (by show w.heap.size<=w.heap.size+1+1;omega)) _).setCell (p:=⟨w.heap.size+1+1,1,none⟩) (.inr (by show w.heap.size<=w.heap.size+1+1;omega)) _,by omega,by omega,by omega,by omega,by omega,by omega⟩
 ·rw [e]
  exact aV (aV ob (a:=⟨w.heap.size+1+1,0,none⟩) (by simp [Value.ownBlock]) _) (a:=⟨w.heap.size+1+1,1,none⟩) (by simp [Value.ownBlock]) _
 ·rw [aI (by show w.heap.size+1≠w.heap.size+1+1;omega),aI (by show w.heap.size+1≠w.heap.size+1+1;omega)];exact b2
 ·rw [aI (by show w.heap.size≠w.heap.size+1+1;omega),aI (by show w.heap.size≠w.heap.size+1+1;omega)];exact b1
theorem xA.set {w wr:World} {n L g B j:Nat} {x:Value} {W:List Int} (h:xA w n L g B x W wr) (hj:j<L) (z:Int):xA w n L g B x (W.set j z) (wr.setCell ⟨g,j,none⟩ (.int .u64 z)):=by
 have hg:=(h.row.lt g rfl).1;refine ⟨?_,by rw [aI h.ne.1.symm];exact h.bx,by rw [aI h.ne.2.1.symm];exact h.rs,by rw [aI h.ne.2.2.1.symm];exact h.tb,h.up.setCell (p:=⟨g,j,none⟩) (.inr hg) _,h.ne⟩;have:=dA h.row (j:=j) (by omega) (.int .u64 z)
 have e:(dB W).set j (.int .u64 z)=dB (W.set j z):=by simp [dB,List.map_set]
 rw [<- e];exact this
theorem xA.upd {w wr w2:World} {n L g B:Nat} {x:Value} {W:List Int} (h:xA w n L g B x W wr) (u:af [] wr w2):xA w n L g B x W w2:=by
 have e:∀ {k:Nat} {o:Obj},wr.heap[k]?=some o->w2.heap[k]?=some o:=fun {k o} hk=>by rw [u.block k (aj hk) (by simp)];exact hk
 exact ⟨ah h.row fun k hk=>u.block k (h.row.lt k hk).2 (by simp),e h.bx,e h.rs,e h.tb,h.up.trans u,h.ne⟩
theorem GR (Z:List Nat) (c:Value) (t:TV) (v:Nat) (b:Bool) (w:World) (h:fO w Z c t) (hv:v<t.n) (hv6:v<6) :
  Calls Tryz.prog 116 #[bK t c,.int .i64 v,.bool b] w fun e w'=>Bl (bG t v b) w e w':=by
 unfold bK;obtain ⟨i2,dP,dX,dV,dW⟩:=info_parts Tryz.infoU64;have HI:=Lib.hid (And.intro dP (And.intro dX (And.intro dV dW)));have uH:=h.ok.len_le;have A7:=h.ok.n16;obtain ⟨fa,ca,FH,_⟩:=fP h.row;subst FH;have HT:=Lib.hid h;obtain ⟨L,hL⟩ : ∃ L,t.ws.length=L:=⟨_,rfl⟩;rw [hL] at uH;obtain ⟨n,hn⟩ : ∃ n,t.n=n:=⟨_,rfl⟩;rw [hn] at A7 hv;have HN:=Lib.hid (And.intro hL hn);have aB:=h.row;rw [hL] at aB;have bQ:=Lib.hid aB
 simp only [hL,hn]
 clear h dP dX dV dW hL hn aB;obtain ⟨a0,a1⟩:=jc w (.int .i64 n) (.slice fa L ca);have oz:=Lib.hid (heap_alloc_new w (.cells #[.int .i64 n,.slice fa L ca] 121 (0,0)));have Jg:=Lib.hid (heap_alloc_new (w.alloc (.cells #[.int .i64 n,.slice fa L ca] 121 (0,0))) (.cells #[.int .i64 0,.slice none 0 0] 121 (0,0)));have q0:=(((af.refl [] _).alloc (.cells #[.int .i64 0,.slice none 0 0] 121 (0,0))).cell (World.block_lt_of_cell? _ _ a0) (by simp)).trans a0;have q1:=(((af.refl [] _).alloc (.cells #[.int .i64 0,.slice none 0 0] 121 (0,0))).cell (World.block_lt_of_cell? _ _ a1) (by simp)).trans a1;clear a0 a1
 go_enter Tryz.func116,Tryz.ntmps116
 obtain ⟨wa,ra,oa,ga⟩:=run_make_full (P:=Tryz.prog) ((w.alloc (.cells #[.int .i64 n,.slice fa L ca] 121 (0,0))).alloc (.cells #[.int .i64 0,.slice none 0 0] 121 (0,0))).drew w.heap.size 68 90 i2 (.int .u64 0) 1 Tryz.underlying68 HI.out.1 HI.out.2.1 HI.out.2.2.1 .i64 .i64 L (by rw [HI.out.2.2.2];omega) (by unfold maxLen;omega) (by show w.heap.size<=((w.alloc _).alloc _).heap.size;rw [World.size_alloc,World.size_alloc];omega);obtain ⟨wb,rb,ob,gb⟩:=run_make_full (P:=Tryz.prog) (((w.alloc (.cells #[.int .i64 n,.slice fa L ca] 121 (0,0))).alloc (.cells #[.int .i64 0,.slice none 0 0] 121 (0,0))).alloc (.cells #[.int .i64 0,.slice none 0 0] 121 (0,0))).drew w.heap.size 68 90 i2 (.int .u64 0) 1 Tryz.underlying68 HI.out.1 HI.out.2.1 HI.out.2.2.1 .i64 .i64 L (by rw [HI.out.2.2.2];omega) (by unfold maxLen;omega) (by show w.heap.size<=(((w.alloc _).alloc _).alloc _).heap.size;rw [World.size_alloc,World.size_alloc,World.size_alloc];omega);obtain ⟨ua,a1,a2,a3⟩:=JJ w _ _ ga;obtain ⟨ub,b1,b2,b3,b4⟩:=JK w _ _ gb;have Rw:wa.cell? ⟨w.heap.size,0,none⟩=some (.int .i64 n):=ae a1 rfl;have Rx:wa.cell? ⟨w.heap.size,1,none⟩=some (.slice fa L ca):=ae a1 rfl;have az:=(af.refl [] wa).alloc (.cells #[.int .i64 0,.slice none 0 0] 121 (0,0));have Zy:=(az.cell (World.block_lt_of_cell? _ _ Rw) (by simp)).trans Rw;have Zz:=(az.cell (World.block_lt_of_cell? _ _ Rx) (by simp)).trans Rx;have pz:=heap_alloc_new wa (.cells #[.int .i64 0,.slice none 0 0] 121 (0,0));have ZC:(wa.alloc (.cells #[.int .i64 0,.slice none 0 0] 121 (0,0))).cell? ⟨wa.heap.size,0,none⟩=some (.int .i64 0):=ae pz rfl;have ZE:(wa.alloc (.cells #[.int .i64 0,.slice none 0 0] 121 (0,0))).cell? ⟨wa.heap.size,1,none⟩=some (.slice none 0 0):=ae pz rfl;have ZF:=ak 0 pz;have ZG:=ak 1 pz;clear az pz;have ZH:wb.cell? ⟨w.heap.size,0,none⟩=some (.int .i64 n):=ae b1 rfl;have ZI:wb.cell? ⟨w.heap.size,1,none⟩=some (.slice fa L ca):=ae b1 rfl;have ZJ:wb.cell? ⟨w.heap.size+1+1,0,none⟩=some (.int .i64 0):=ae b3 rfl;have ZK:wb.cell? ⟨w.heap.size+1+1,1,none⟩=some (.slice none 0 0):=ae b3 rfl;have ZL:=ak 0 b3;have ZM:=ak 1 b3;rw [a3,Nat.mul_one,show (Value.int .u64 0).cells=[Value.int .u64 0].toArray from rfl] at oa;rw [b4,Nat.mul_one,show (Value.int .u64 0).cells=[Value.int .u64 0].toArray from rfl] at ob;have VA:=Lib.hid (JL (n:=n) ua a1 a2 oa);have VB:=Lib.hid (JM (n:=n) ub b1 b2 b3 ob);clear ua a1 a2 a3 ub b1 b2 b3 b4;clear oa ga ob gb;go_wp2_with fail
 go_region
 focus (
  have HM:=Lib.hid VA.out;generalize wa.heap.size=B at HM;generalize w.heap.size+1+1=g at HM
  generalize (wa.alloc (.cells #[.int .i64 n,.slice (some ⟨g,0,none⟩) L L] 121 (0,0)))=W0 at HM)
 rotate_left
 focus (
  have HM:=Lib.hid VB.out;generalize w.heap.size+1+1+1=g at HM;generalize w.heap.size+1+1=B at HM
  generalize ((wb.setCell ⟨B,0,none⟩ (.int .i64 n)).setCell ⟨B,1,none⟩ (.slice (some ⟨g,0,none⟩) L L))=W0 at HM)
 all_goals (
  clear VA VB Rw Rx ZH ZI ZJ ZK Zy Zz ZC ZE ZL ZM ZF ZG ra rb q0 q1 oz Jg
  have Ry:decide ((6:Int)<=(v:Int))=false:=by simp;omega
  go_wp2_with fail;refine (Jb 6 v W0 (by omega) (by omega)).mono ?_;rintro e w3 hE;obtain ⟨cv,rfl,Yl,eu⟩:=hE.ex;obtain ⟨gv,cvn,ZW,_⟩:=fP Yl.row;have Zv:(NJ 6 v).ws.length=1:=(jw _ (by omega)).len;subst ZW;rw [Zv] at Yl;obtain ⟨gv1,Zq⟩:=bY Yl.row (by rw [Zv];omega);subst Zq;obtain ⟨ed,NM⟩ : ∃ o,(NJ 6 v).ws.getD 0 0=o:=⟨_,rfl⟩
  have FM:(NJ 6 v).ws[0]?=some ed:=by rw [<- NM,List.getD_eq_getElem?_getD,List.getElem?_eq_getElem (by omega)];rfl
  have co:w3.cell? ⟨gv1,0,none⟩=some (.int .u64 ed):=ax Yl.row (j:=0) (by rw [dB,List.getElem?_map,FM];rfl)
  have Yu:Hid (jf ed/\∀ i,i<64->nb ed i=i.testBit v):=by
   have dY:(NJ 6 v).Ok:=jw _ (by omega);refine ⟨dY.u _ (List.mem_of_getElem? FM),fun i hi=>?_⟩;have hb:=AZ (n:=6) (fun x=>x.testBit v) (x:=i) (by omega);unfold TV.bit at hb;rw [show i/64=0 by omega,show i % 64=i by omega] at hb
   rw [<- NM];exact hb
  have OT:=Lib.hid (HM.out.upd eu);clear hE Yl eu NM FM
  simp only [bK,Zv]
  clear Zv;have SY:=acH;go_wp2_with fail;clear SY co;have ZP:Hid (gB (fun i=>jP v b ed (t.ws.getD i 0)) L 0=List.replicate L 0):=uJ _ _
  go_loopg [12] L (fun gg s12 wr=>∃ x:Nat,L-x=gg/\x<=L/\s12=.int .i64 x/\xA w n L g B (.slice fa L ca) (gB (fun i=>jP v b ed (t.ws.getD i 0)) L x) wr)
  case atStart=>exact ⟨0,by omega,by omega,rfl,by rw [ZP.out];exact OT.out⟩
  case round =>
   obtain ⟨x,rfl,hx,rfl,hM⟩:=hrel;have t1:wr.cell? ⟨w.heap.size,1,none⟩=some (.slice fa L ca):=ae (j:=1) hM.tb rfl;have s0:wr.cell? ⟨B,0,none⟩=some (.int .i64 n):=ae (j:=0) hM.bx rfl;have s1:wr.cell? ⟨B,1,none⟩=some (.slice (some ⟨g,0,none⟩) L L):=ae (j:=1) hM.bx rfl
   by_cases aZ:x<L
   ·have fE:(x:Int)<(L:Int):=by omega
    obtain ⟨ga,rfl⟩:=bQ.out.some_ (by omega)
    have hr:=bQ.out.kp fun k hk=>hM.up.block k (bQ.out.lt k hk).2 (by simp)
    obtain ⟨X,hX⟩ : ∃ X,t.ws.getD x 0=X:=⟨_,rfl⟩
    have e0:t.ws[x]?=some X:=by rw [<- hX,List.getD_eq_getElem?_getD,List.getElem?_eq_getElem (by rw [HN.out.1];exact aZ)];rfl
    have cx:wr.cell? (ga.add x)=some (.int .u64 X):=hr.cells _ _ _ rfl x _ (by rw [dB,List.getElem?_map,e0];rfl);obtain ⟨Y,hY⟩ : ∃ Y,(gB (fun i=>jP v b ed (t.ws.getD i 0)) L x).getD x 0=Y:=⟨_,rfl⟩
    have e1:(gB (fun i=>jP v b ed (t.ws.getD i 0)) L x)[x]?=some Y:=by rw [<- hY,List.getD_eq_getElem?_getD,List.getElem?_eq_getElem (by rw [qJ];exact aZ)];rfl
    have cy:wr.cell? ⟨g,x,none⟩=some (.int .u64 Y):=ax hM.row (by rw [dB,List.getElem?_map,e1];rfl);have fy:=aS hM.row x;have kU:=hM.set aZ (jP v b ed X);rw [<- hX,yF (fun i=>jP v b ed (t.ws.getD i 0)) aZ,hX] at kU;have HE:=Lib.hid kU
    have hp1:(2:Nat) ^ v<=32:=by
     have:(2:Nat) ^ v<=2 ^ 5:=Nat.pow_le_pow_right (by omega) (by omega);omega
    have Sv:(v:Int)<64:=by omega
    have hsv:IntKind.u64.wrap (2 ^ v)=((2 ^ v:Nat):Int):=by
     have h2:((2:Int) ^ v)=((2 ^ v:Nat):Int):=by push_cast;rfl
     rw [h2]
     have e:∀ z:Nat,z<=32->IntKind.u64.wrap (z:Int)=(z:Int):=fun z hz=>by
      have:IntKind.u64.wrap (z:Int)=(z:Int) % 18446744073709551616:=rfl
      rw [this];omega
     exact e _ hp1
    obtain ⟨sv,NP⟩ : ∃ sv,2 ^ v=sv:=⟨_,rfl⟩;rw [NP] at hp1 hsv
    have aiu:(sv:Int)<64:=by omega
    clear hM kU hr e0 e1 hX hY
    cases b with
    | true =>
     have HW:Hid (jP v true ed X=bits BinOp.or IntKind.u64 (bits BinOp.and IntKind.u64 X ed) (bits BinOp.and IntKind.u64 X ed/2 ^ sv)):=by
      show jP v true ed X=_
      unfold jP;rw [if_pos rfl,NP]
     clear NP;go_wp2_with fail
     go_region
     go_wp2_with fail
     go_roundg (L-(x+1))
     case measure=>omega
     case rel=>exact ⟨x+1,rfl,by omega,by simp,by rw [HW.out] at HE;exact HE.out.upd ((af.refl [] _).drew)⟩
    | false =>
     have HW:Hid (jP v false ed X=bits BinOp.or IntKind.u64 (bits BinOp.andNot IntKind.u64 X ed) (IntKind.u64.wrap (bits BinOp.andNot IntKind.u64 X ed*2 ^ sv))):=by
      show jP v false ed X=_
      unfold jP;rw [if_neg (by simp),NP]
     clear NP;go_wp2_with fail
     go_region
     go_wp2_with fail
     go_roundg (L-(x+1))
     case measure=>omega
     case rel=>exact ⟨x+1,rfl,by omega,by simp,by rw [HW.out] at HE;exact HE.out.upd ((af.refl [] _).drew)⟩
   ·obtain rfl:x=L:=by omega
    have fE:¬ ((x:Int)<(x:Int)):=by omega
    have z0:wr.cell? ⟨w.heap.size+1,0,none⟩=some (.int .i64 0):=ae (j:=0) hM.rs rfl;have z1:wr.cell? ⟨w.heap.size+1,1,none⟩=some (.slice none 0 0):=ae (j:=1) hM.rs rfl;have f0:=ak 0 hM.rs;have f1:=ak 1 hM.rs;have Oo:=Lib.hid hM;clear hM;go_wp2_with fail;obtain ⟨b0,b1⟩:=GN Oo.out.rs (.int .i64 n) (.slice (some ⟨g,0,none⟩) x x);refine bodyPost_ret (v:=.agg #[.int .i64 n,.slice (some ⟨g,0,none⟩) x x]) (by simp [results,Tryz.results116,go_sem,b0,b1]) rfl ?_;have Rz:=PW HT.out.ok hv6 (by rw [HN.out.2];exact hv) b Yu.out.1 Yu.out.2;have RF:=Jc (jP v b ed) t.ws HN.out.1;have aB:=Oo.out.row;rw [RF] at aB
    have nT:wr.ownsRow w.heap.size 90 1 (.slice (some ⟨g,0,none⟩) x x) (bG t v b).ws.length (dB (bG t v b).ws):=by
     rw [Rz]
     show wr.ownsRow _ _ _ _ (t.ws.map (jP v b ed)).length _
     rw [List.length_map,HN.out.1];exact aB
    have hu:=(Oo.out.up.setCell (p:=⟨w.heap.size+1,0,none⟩) (.inr (by show w.heap.size<=w.heap.size+1;omega)) (.int .i64 n)).setCell (p:=⟨w.heap.size+1,1,none⟩) (.inr (by show w.heap.size<=w.heap.size+1;omega)) (.slice (some ⟨g,0,none⟩) x x);have D9:=Oo.out.ne.2.1;have r1:=aV nT (a:=⟨w.heap.size+1,0,none⟩) (by simpa [Value.ownBlock] using Ne.symm D9) (.int .i64 n);have r2:=aV r1 (a:=⟨w.heap.size+1,1,none⟩) (by simpa [Value.ownBlock] using Ne.symm D9) (.slice (some ⟨g,0,none⟩) x x)
    exact ⟨_,by simp only [bK];rw [show (bG t v b).n=n from HN.out.2],⟨kV HT.out.ok v b,r2⟩,hu⟩)
end Go.Proofs.YtdackeldhdchaaaGreat
