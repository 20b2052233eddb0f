import Derived.Test.YtdackeldhdchaaaGreatPQ28
set_option maxRecDepth 100000
set_option maxHeartbeats 3200000
namespace Go.Proofs.YtdackeldhdchaaaGreat
open Go.RowKit Go.Maps Go.ChangeMaps Go.WideShapes
theorem Tryz.infoBoolR:(Tryz.prog.info? 4).map (fun i=>(i.zero,i.size,i.bytes))=some (some (.bool false),1,1):=by kernel_rfl
theorem aG5 {w1:World} {B:Nat} {x y:Value} {t:TypeId} (h:w1.heap[B]?=some (.cells #[x,y] t (0,0))) (x' y':Value) :
  ((w1.setCell ⟨B,0,none⟩ x').setCell ⟨B,1,none⟩ y').cell? ⟨B,0,none⟩=some x'/\((w1.setCell ⟨B,0,none⟩ x').setCell ⟨B,1,none⟩ y').cell? ⟨B,1,none⟩=some y':=by
 have e1:=abV (j:=0) h x';have e2:=abV (j:=1) e1 y';exact ⟨aac e2 rfl,aac e2 rfl⟩
structure aqI (w w':World) (c:Value) (t:TV):Prop where
 ok:t.Ok
 row:w'.ownsRow w.heap.size 90 1 c t.ws.length (aff t.ws)
theorem aqI.tin {w w':World} {c:Value} {t:TV} (h:aqI w w' c t) {Z:List Nat} (hZ:∀ k,k∈Z->k<w.heap.size):TIn w' Z c t :=
 ⟨h.ok,aq6.of h.row,fun k hk hm=>by have:=(h.row.lt k hk).1;have:=hZ k hm;omega⟩
theorem aqI.keep {w w' w2:World} {c:Value} {t:TV} (h:aqI w w' c t) (u:Upd [] w' w2):aqI w w2 c t :=
 ⟨h.ok,aaX h.row fun k hk=>u.block k (h.row.lt k hk).2 (by simp)⟩
theorem aqI.base {w0 w w':World} {c:Value} {t:TV} (h:aqI w w' c t) (hs:w0.heap.size<=w.heap.size):aqI w0 w' c t:=⟨h.ok,aet h.row hs⟩
structure aql (n:Nat) (l:List Bool) (x:Nat) (W:List Int):Prop where
 len:W.length=adu n
 u:∀ i,i<adu n->U64 (W.getD i 0)
 b:∀ i,i<adu n->∀ j,nb (W.getD i 0) j=(decide (j<64)&&(decide (64*i+j<x)&&l.getD (64*i+j) false))
theorem aql.start (n:Nat) (l:List Bool):aql n l 0 (List.replicate (adu n) 0):=by
 have e:∀ i,(List.replicate (adu n) (0:Int)).getD i 0=0:=fun i=>by
  rw [List.getD_eq_getElem?_getD,List.getElem?_replicate];split <;> rfl
 exact ⟨by simp,fun i _=>by rw [e];exact aLu,fun i _ j=>by rw [e,aNv];simp⟩
theorem aql.skip {n:Nat} {l:List Bool} {x:Nat} {W:List Int} (h:aql n l x W) (hf:l.getD x false=false):aql n l (x+1) W:=by
 refine ⟨h.len,h.u,fun i hi j=>?_⟩;rw [h.b i hi j]
 congr 1
 by_cases e:64*i+j=x
 ·rw [e,hf];simp
 ·congr 1
  rw [decide_eq_decide];omega
theorem aql.set {n:Nat} {l:List Bool} {x:Nat} {W:List Int} (h:aql n l x W) (hx:x<2 ^ n) (hf:l.getD x false=true) :
  IntKind.u64.wrap (W.getD (x/64) 0+2 ^ (x % 64))=W.getD (x/64) 0+2 ^ (x % 64)/\aql n l (x+1) (W.set (x/64) (W.getD (x/64) 0+2 ^ (x % 64))):=by
 have hd:=am3 hx;have hu:=h.u _ hd;have hb:=h.b _ hd;obtain ⟨m,hm⟩ : ∃ m:Nat,W.getD (x/64) 0=(m:Int):=⟨(W.getD (x/64) 0).toNat,by unfold U64 at hu;omega⟩;rw [hm] at hu hb ⊢
 simp only [aiL] at hb
 have hlt:m<2 ^ (x % 64):=by
  apply Nat.lt_pow_two_of_testBit
  intro i hi
  rw [hb]
  have:¬ (64*(x/64)+i<x):=by omega
  simp [this]
 have hp:(2:Nat) ^ (x % 64)<=2 ^ 63:=Nat.pow_le_pow_right (by omega) (by omega)
 have hc:((m:Int)+2 ^ (x % 64))=((m+2 ^ (x % 64):Nat):Int):=by push_cast;rfl
 have aX9:m.testBit (x % 64)=false:=Nat.testBit_lt_two_pow hlt
 have hU:U64 ((m:Int)+2 ^ (x % 64)):=by
  rw [hc];unfold U64
  generalize (2:Nat) ^ (x % 64)=z at hlt hp ⊢;omega
 refine ⟨?_,?_⟩
 ·have e:IntKind.u64.wrap ((m:Int)+2 ^ (x % 64))=((m:Int)+2 ^ (x % 64)) % 18446744073709551616:=rfl
  rw [e];generalize ((m:Int)+2 ^ (x % 64))=z at hU
  unfold U64 at hU;omega
 ·have eg:∀ i,i<adu n->(W.set (x/64) ((m:Int)+2 ^ (x % 64))).getD i 0=if i=x/64 then (m:Int)+2 ^ (x % 64) else W.getD i 0:=fun i hi=>by
   rw [List.getD_eq_getElem?_getD,List.getElem?_set]
   by_cases e:x/64=i
   ·rw [if_pos e,if_pos e.symm,if_pos (by rw [h.len];omega)];rfl
   ·rw [if_neg e,if_neg (Ne.symm e),List.getD_eq_getElem?_getD]
  refine ⟨by rw [List.length_set];exact h.len,fun i hi=>?_,fun i hi j=>?_⟩
  ·rw [eg i hi]
   split
   ·exact hU
   ·exact h.u i hi
  ·rw [eg i hi]
   by_cases e:i=x/64
   ·subst e
    rw [if_pos rfl,hc,aiL,aGh aX9,hb]
    by_cases ej:j=x % 64
    ·subst ej
     have e1:64*(x/64)+x % 64=x:=by omega
     have e2:x % 64<64:=Nat.mod_lt _ (by omega)
     rw [if_pos rfl,e1,hf];simp [e2]
    ·rw [if_neg ej]
     congr 2
     rw [decide_eq_decide];omega
   ·rw [if_neg e,h.b i hi]
    by_cases hj:j<64
    ·congr 2
     rw [decide_eq_decide];omega
    ·simp [hj]
theorem aql.done {n:Nat} {l:List Bool} {W:List Int} (h:aql n l l.length W) (hn:n<=16) (hl:l.length<=2 ^ n):(⟨n,W⟩ : TV)=mkT n fun x=>l.getD x false:=by
 have hok:(⟨n,W⟩ : TV).Ok:=by
  refine ⟨hn,h.len,fun x hx=>?_,fun h6 x hx i hi=>?_⟩
  ·obtain ⟨j,hj⟩:=List.getElem?_of_mem hx
   have hjl:j<W.length:=by
    by_cases e:j<W.length
    ·exact e
    ·rw [show (⟨n,W⟩ : TV).ws=W from rfl,List.getElem?_eq_none (by omega)] at hj;cases hj
   have:=h.u j (by rw [<- h.len];exact hjl)
   rw [List.getD_eq_getElem?_getD,hj] at this;exact this
  ·obtain ⟨j,hj⟩:=List.getElem?_of_mem hx
   have hjl:j<W.length:=by
    by_cases e:j<W.length
    ·exact e
    ·rw [show (⟨n,W⟩ : TV).ws=W from rfl,List.getElem?_eq_none (by omega)] at hj;cases hj
   have:=h.b j (by rw [<- h.len];exact hjl) i;rw [List.getD_eq_getElem?_getD,hj] at this;have h6':n<6:=h6;have hi':2 ^ n<=i:=hi;have e:(some x).getD 0=x:=rfl;rw [e] at this;rw [this]
   have:¬ (64*j+i<l.length):=by omega
   simp [this]
 refine aGi hok fun x hx=>?_
 have hx':x<2 ^ n:=hx;have hd:=am3 hx';unfold TV.bit
 show nb (W.getD (x/64) 0) (x % 64)=_
 rw [h.b _ hd,show 64*(x/64)+x % 64=x by omega];have e2:x % 64<64:=Nat.mod_lt _ (by omega)
 by_cases e:x<l.length
 ·simp [e,e2]
 ·have:l.getD x false=false:=by rw [List.getD_eq_getElem?_getD,List.getElem?_eq_none (by omega)];rfl
  rw [this];simp
structure aw5 (w:World) (n g B:Nat) (W:List Int) (wr:World):Prop where
 row:wr.ownsRow w.heap.size 90 1 (.slice (some ⟨g,0,none⟩) (adu n) (adu n)) (adu n) (aff W)
 bx:wr.heap[B]?=some (.cells #[.int .i64 n,.slice (some ⟨g,0,none⟩) (adu n) (adu n)] 121 (0,0))
 rs:wr.heap[w.heap.size]?=some (.cells #[.int .i64 0,.slice none 0 0] 121 (0,0))
 up:Upd [] w wr
 gb:g≠B/\g≠w.heap.size/\B≠w.heap.size/\w.heap.size<B
theorem aw5.set {w wr:World} {n g B j:Nat} {W:List Int} (h:aw5 w n g B W wr) (hj:j<adu n) (x:Int):aw5 w n g B (W.set j x) (wr.setCell ⟨g,j,none⟩ (.int .u64 x)):=by
 have hg:=(h.row.lt g rfl).1;refine ⟨?_,by rw [acb h.gb.1.symm];exact h.bx,by rw [acb h.gb.2.1.symm];exact h.rs,h.up.setCell (p:=⟨g,j,none⟩) (.inr hg) _,h.gb⟩;have:=ae1 h.row (j:=j) (by omega) (.int .u64 x)
 have e:(aff W).set j (.int .u64 x)=aff (W.set j x):=by simp [aff,List.map_set]
 rw [<- e];exact this
theorem aw5.drew {w wr:World} {n g B:Nat} {W:List Int} (h:aw5 w n g B W wr):aw5 w n g B W wr.drew:=⟨h.row,h.bx,h.rs,h.up.drew,h.gb⟩
structure aC7 (t:TV) (w:World) (e:Ending) (w':World):Prop where
 ex:∃ c:Value,e=.returned (aeH t c)/\aqI w w' c t/\Upd [] w w'
theorem atH (n:Nat) (l:List Bool) (lv:Value) (base:Nat) (w:World) (h:w.ownsRow base 4 1 lv l.length (l.map Value.bool)) (hn:n<=16) (hl:l.length<=2 ^ n) :
  Calls Tryz.prog 154 #[.int .i64 n,lv] w fun e w'=>aC7 (mkT n fun x=>l.getD x false) w e w':=by
 obtain ⟨i2,hi2,hz2,hs2,hb2⟩:=info_parts Tryz.infoU64;have HI:=Lib.hid (And.intro hi2 (And.intro hz2 (And.intro hs2 hb2)));have h16:(2:Nat) ^ n<=2 ^ 16:=Nat.pow_le_pow_right (by omega) hn
 have a4v:l.length<=65536:=by omega
 have hwn:adu n<=1024:=by
  unfold adu;split
  ·omega
  ·have:(2:Nat) ^ (n-6)<=2 ^ 10:=Nat.pow_le_pow_right (by omega) (by omega)
   omega
 obtain ⟨fa,fc,rfl,_⟩:=abI h;have HR:=Lib.hid h;have HL:=Lib.hid (And.intro hn hl);clear h hi2 hz2 hs2 hb2 h16 hl
 go_enter Tryz.func154,Tryz.ntmps154
 go_wp2_with fail;refine (aze n _ HL.out.1).mono ?_;rintro e w1 ⟨rfl,rfl⟩;have HZ:=Lib.hid (heap_alloc_new w (.cells #[.int .i64 0,.slice none 0 0] 121 (0,0)))
 have hsz:(w.alloc (.cells #[.int .i64 0,.slice none 0 0] 121 (0,0))).heap.size=w.heap.size+1:=by rw [World.size_alloc]
 obtain ⟨N,hN⟩ : ∃ N,adu n=N:=⟨_,rfl⟩;rw [hN] at hwn;have HN:=Lib.hid hN
 simp only [hN]
 clear hN
 go_wp2_with (refine wpList_make_full _ rfl (.tmp 9) (.tmp 9) 68 rfl w.heap.size 90 i2 (.int .u64 0) 1 Tryz.underlying68 HI.out.1 HI.out.2.1 HI.out.2.2.1 .i64 .i64 _ _ N rfl rfl rfl rfl (by rw [HI.out.2.2.2];omega) (by unfold maxLen;omega) (by rw [hsz];omega) ?_)
 intro w2 ho hgr
 obtain ⟨g,hg⟩ : ∃ g,w.heap.size+1=g:=⟨_,rfl⟩;rw [hg] at ho;rw [hg];have hs2:=hgr.size;rw [hsz] at hs2
 have HM0:Hid (aw5 w n g w2.heap.size (List.replicate (adu n) 0) (w2.alloc (.cells #[.int .i64 n,.slice (some ⟨g,0,none⟩) N N] 121 (0,0)))):=by
  have hu:Upd [] w w2:=((Upd.refl [] w).alloc _).grown hgr (by simp);have hgl:=(ho.lt g rfl).2
  have er:(w2.heap[w.heap.size]?)=some (.cells #[.int .i64 0,.slice none 0 0] 121 (0,0)):=by
   rw [hgr.block w.heap.size (by rw [hsz];omega) (by simp)];exact HZ.out
  refine ⟨?_,?_,?_,hu.alloc _,by omega,by omega,by omega,by omega⟩
  ·rw [HN.out]
   have e:aff (List.replicate N 0)=(madeCells #[Value.int .u64 0] N).toList:=by
    rw [aff,List.map_replicate];exact (aLn N).symm
   rw [e];exact ho.alloc _
  ·rw [HN.out];exact heap_alloc_new w2 _
  ·rw [Below.heap_alloc _ _ _ (aa4 er)];exact er
 have HFI:=Lib.hid (aql.start n l);obtain ⟨B,hB⟩ : ∃ B,w2.heap.size=B:=⟨_,rfl⟩;rw [hB] at HM0;have HBe:=Lib.hid hB;have hgb:=HM0.out.gb;clear ho hgr hs2 hsz HZ hg hB;go_wp2_with fail;rw [HBe.out]
 go_loopg [6] l.length (fun gg s6 wr=>∃ (x:Nat) (W:List Int),l.length-x=gg/\x<=l.length/\s6=.int .i64 x/\aql n l x W/\aw5 w n g B W wr)
 case atStart=>exact ⟨0,_,by omega,by omega,rfl,HFI.out,HM0.out⟩
 case round =>
  obtain ⟨x,W,rfl,hx,rfl,hI,hM⟩:=hrel;have hbx:=hM.bx;rw [HN.out] at hbx;have y0:wr.cell? ⟨B,0,none⟩=some (.int .i64 n):=aac (j:=0) hbx rfl;have y1:wr.cell? ⟨B,1,none⟩=some (.slice (some ⟨g,0,none⟩) N N):=aac (j:=1) hbx rfl
  by_cases hlt:x<l.length
  ·have hil:(x:Int)<(l.length:Int):=by omega
   obtain ⟨ga,rfl⟩:=aeP HR.out (by omega)
   have hr:=aaX HR.out fun k hk=>hM.up.block k (HR.out.lt k hk).2 (by simp)
   have e0:l[x]?=some (l.getD x false):=by rw [List.getD_eq_getElem?_getD,List.getElem?_eq_getElem hlt];rfl
   have cl:=abf hr (j:=x) (u:=.bool (l.getD x false)) (by rw [List.getElem?_map,e0];rfl);have hx2:x<2 ^ n:=Nat.lt_of_lt_of_le hlt HL.out.2;have hd:=am3 hx2;clear hr e0 hbx
   cases hb:l.getD x false with
   | false =>
    rw [hb] at cl;have HE:=Lib.hid (And.intro (hI.skip hb) hM);clear hI hM hb hx2 hd;go_wp2_with fail
    go_roundg (l.length-(x+1))
    case measure=>omega
    case rel=>exact ⟨x+1,W,rfl,by omega,by simp,HE.out⟩
   | true =>
    rw [hb] at cl;obtain ⟨s1,s2⟩:=hI.set hx2 hb
    have hq2:(x:Int).tdiv 64=((x/64:Nat):Int):=by rw [Int.tdiv_eq_ediv_of_nonneg (by omega)];omega
    have hr2:(x:Int).tmod 64=((x % 64:Nat):Int):=by rw [Int.tmod_eq_emod_of_nonneg (by omega)];omega
    have hrl:((x % 64:Nat):Int)<64:=by omega
    have aQy:x % 64<64:=by omega
    have e1:W[x/64]?=some (W.getD (x/64) 0):=by rw [List.getD_eq_getElem?_getD,List.getElem?_eq_getElem (by rw [hI.len];exact hd)];rfl
    have abP:=hM.row;rw [HN.out] at abP;have cw:=abf abP (j:=x/64) (u:=.int .u64 (W.getD (x/64) 0)) (by rw [aff,List.getElem?_map,e1];rfl);have fw:=aci abP (x/64)
    have hdN:((x/64:Nat):Int)<(N:Int):=by rw [HN.out] at hd;omega
    have hp:IntKind.u64.wrap (2 ^ (x % 64))=2 ^ (x % 64):=by
     have h1:(2:Nat) ^ (x % 64)<=2 ^ 63:=Nat.pow_le_pow_right (by omega) (by omega)
     have h2:((2:Int) ^ (x % 64))=((2 ^ (x % 64):Nat):Int):=by push_cast;rfl
     have e:IntKind.u64.wrap ((2:Int) ^ (x % 64))=(2:Int) ^ (x % 64) % 18446744073709551616:=rfl;rw [e,h2];generalize (2:Nat) ^ (x % 64)=z at h1;omega
    have HE:=Lib.hid (And.intro s2 (hM.set hd (W.getD (x/64) 0+2 ^ (x % 64))));generalize W.getD (x/64) 0=V at cw HE s1;generalize hP:(2:Int) ^ (x % 64)=P at hp s1 HE;have HP:=Lib.hid (show IntKind.u64.wrap (V+IntKind.u64.wrap ((2:Int) ^ (x % 64)))=V+P by rw [hP,hp,s1]);clear hP hp s1;generalize x/64=xq at *;clear hI hM hb hx2 hd s2 e1 abP;go_wp2_with fail
    go_region
    go_wp2_with fail
    go_roundg (l.length-(x+1))
    case measure=>omega
    case rel=>exact ⟨x+1,_,rfl,by omega,by simp,HE.out.1,by rw [HP.out];exact HE.out.2.drew⟩
  ·obtain rfl:x=l.length:=by omega
   have hil:¬ ((l.length:Int)<(l.length:Int)):=by omega
   have hrs:=hM.rs;have z0:wr.cell? ⟨w.heap.size,0,none⟩=some (.int .i64 0):=aac (j:=0) hrs rfl;have z1:wr.cell? ⟨w.heap.size,1,none⟩=some (.slice none 0 0):=aac (j:=1) hrs rfl;have f0:=abq 0 hrs;have f1:=abq 1 hrs;have HE:=Lib.hid (And.intro hI hM);clear hI hM hbx hrs;go_wp2_with fail;obtain ⟨b0,b1⟩:=aG5 HE.out.2.rs (.int .i64 n) (.slice (some ⟨g,0,none⟩) N N);refine bodyPost_ret (v:=.agg #[.int .i64 n,.slice (some ⟨g,0,none⟩) N N]) (by simp [results,Tryz.results154,go_sem,b0,b1]) rfl ?_;have hd:=HE.out.1.done HL.out.1 HL.out.2;have abP:=HE.out.2.row;rw [HN.out] at abP
   have hlen:W.length=N:=by rw [HE.out.1.len,HN.out]
   have ar6:wr.ownsRow w.heap.size 90 1 (.slice (some ⟨g,0,none⟩) N N) (⟨n,W⟩ : TV).ws.length (aff (⟨n,W⟩ : TV).ws):=by
    show wr.ownsRow _ _ _ _ W.length (aff W)
    rw [hlen];exact abP
   have hu:=(HE.out.2.up.setCell (p:=⟨w.heap.size,0,none⟩) (.inr (Nat.le_refl _)) (.int .i64 n)).setCell (p:=⟨w.heap.size,1,none⟩) (.inr (Nat.le_refl _)) (.slice (some ⟨g,0,none⟩) N N);have hg2:=HE.out.2.gb.2.1;have r1:=ac9 ar6 (a:=⟨w.heap.size,0,none⟩) (by simpa [Value.ownBlock] using Ne.symm hg2) (.int .i64 n);have r2:=ac9 r1 (a:=⟨w.heap.size,1,none⟩) (by simpa [Value.ownBlock] using Ne.symm hg2) (.slice (some ⟨g,0,none⟩) N N);rw [hd] at r2;exact ⟨_,rfl,⟨amv _ HL.out.1,r2⟩,hu⟩
def adH (f:Nat->Bool) (m i:Nat):List Bool:=(List.range m).map fun x=>decide (x<i)&&f x
theorem ahc (f:Nat->Bool) (m i:Nat):(adH f m i).length=m:=by simp [adH]
theorem aq0 (f:Nat->Bool) (m:Nat):adH f m 0=List.replicate m false:=by
 apply List.ext_getElem?
 intro j
 by_cases h:j<m
 ·simp [adH,h]
 ·simp [adH,h]
theorem atG (f:Nat->Bool) {m i:Nat} (_hi:i<m):(adH f m i).set i (f i)=adH f m (i+1):=by
 apply List.ext_getElem?
 intro j
 rw [List.getElem?_set]
 by_cases h:j<m
 ·by_cases e:i=j
  ·subst e;simp [adH,h]
  ·rw [if_neg e]
   simp only [adH,List.getElem?_map,List.getElem?_range h,Option.map_some]
   congr 2
   rw [decide_eq_decide];omega
 ·by_cases e:i=j
  ·omega
  ·rw [if_neg e];simp [adH,h]
theorem aGj (f:Nat->Bool) {m x:Nat} (hx:x<m):(adH f m m).getD x false=f x:=by
 rw [List.getD_eq_getElem?_getD];simp [adH,hx]
theorem aJu (n:Nat):(madeCells #[Value.bool false] n).toList=List.replicate n (Value.bool false):=by
 apply List.ext_getElem?
 intro i
 by_cases hi:i<n
 ·simp [madeCells,hi,Nat.mod_one]
 ·simp [madeCells,hi]
structure aj8 (w:World) (g B m:Nat) (l:List Bool) (wr:World):Prop where
 row:wr.ownsRow w.heap.size 4 1 (.slice (some ⟨g,0,none⟩) m m) m (l.map Value.bool)
 rs:wr.heap[B]?=some (.cells #[.int .i64 0,.slice none 0 0] 121 (0,0))
 up:Upd [] w wr
 bw:w.heap.size<=B/\g≠B
theorem aj8.set {w wr:World} {g B m j:Nat} {l:List Bool} (h:aj8 w g B m l wr) (hj:j<m) (b:Bool):aj8 w g B m (l.set j b) (wr.setCell ⟨g,j,none⟩ (.bool b)):=by
 have hg:=(h.row.lt g rfl).1;refine ⟨?_,by rw [acb h.bw.2.symm];exact h.rs,h.up.setCell (p:=⟨g,j,none⟩) (.inr hg) _,h.bw⟩;have:=ae1 h.row (j:=j) (by omega) (.bool b)
 rw [List.map_set];exact this
theorem aIs {n:Nat} {f g:Nat->Bool} (h:∀ x,x<2 ^ n->f x=g x):mkT n f=mkT n g:=by
 have key:∀ i:Nat,(fun j=>decide (64*i+j<2 ^ n)&&f (64*i+j))=(fun j=>decide (64*i+j<2 ^ n)&&g (64*i+j)):=fun i=>by
  funext j
  by_cases hx:64*i+j<2 ^ n
  ·rw [h _ hx]
  ·rw [decide_eq_false hx];rfl
 exact congrArg (TV.mk n) (List.map_congr_left fun i _=>congrArg (fun z:Nat=>(z:Int)) (congrArg (idx 64) (key i)))
theorem avH (n m:Nat) (hm:2 ^ n=m) (f:Nat->Bool):(mkT n fun x=>(adH f m m).getD x false)=mkT n f:=by
 subst hm
 apply aIs
 intro x hx
 exact aGj f hx
theorem aqY (n:Nat) (b:Bool) (w:World) (hn:n<=16):Calls Tryz.prog 90 #[.int .i64 n,.bool b] w fun e w'=>aC7 (amA n b) w e w':=by
 obtain ⟨i2,hi2,hz2,hs2,hb2⟩:=info_parts Tryz.infoBoolR;have HI:=Lib.hid (And.intro hi2 (And.intro hz2 (And.intro hs2 hb2)));have h16:(2:Nat) ^ n<=2 ^ 16:=Nat.pow_le_pow_right (by omega) hn
 have aRZ:(n:Int)<64:=by omega
 have hsh:wrap64 (2 ^ n)=((2 ^ n:Nat):Int):=by
  have h2:((2:Int) ^ n)=((2 ^ n:Nat):Int):=by push_cast;rfl
  rw [h2];generalize (2:Nat) ^ n=z at h16
  unfold wrap64;omega
 obtain ⟨m,hm⟩ : ∃ m,2 ^ n=m:=⟨_,rfl⟩;rw [hm] at h16 hsh;have HMN:=Lib.hid (And.intro hm (And.intro hn hsh));clear hi2 hz2 hs2 hb2 hm hn hsh
 go_enter Tryz.func90,Tryz.ntmps90
 have HZ:=Lib.hid (heap_alloc_new w (.cells #[.int .i64 0,.slice none 0 0] 121 (0,0)))
 go_wp2_with (refine wpList_make_full _ rfl (.tmp 8) (.tmp 8) 75 rfl w.heap.size 4 i2 (.bool false) 1 Tryz.underlying75 HI.out.1 HI.out.2.1 HI.out.2.2.1 .i64 .i64 _ _ m rfl rfl HMN.out.2.2 HMN.out.2.2 (by rw [HI.out.2.2.2];omega) (by unfold maxLen;omega) (by rw [World.size_alloc];omega) ?_)
 intro w2 ho hgr
 have hsz:(w.alloc (.cells #[.int .i64 0,.slice none 0 0] 121 (0,0))).heap.size=w.heap.size+1:=by rw [World.size_alloc]
 obtain ⟨g,hg⟩ : ∃ g,w.heap.size+1=g:=⟨_,rfl⟩;rw [hg] at ho;rw [hg]
 have HM0:Hid (aj8 w g w.heap.size m (adH (fun _=>b) m 0) w2):=by
  have hu:Upd [] w w2:=((Upd.refl [] w).alloc _).grown hgr (by simp)
  have er:(w2.heap[w.heap.size]?)=some (.cells #[.int .i64 0,.slice none 0 0] 121 (0,0)):=by
   rw [hgr.block w.heap.size (by rw [hsz];omega) (by simp)];exact HZ.out
  refine ⟨?_,er,hu,by omega,by omega⟩;rw [aq0]
  have e:(List.replicate m false).map Value.bool=(madeCells #[Value.bool false] m).toList:=by
   rw [List.map_replicate];exact (aJu m).symm
  rw [e];exact ho
 clear ho hgr hsz HZ hg;go_wp2_with fail
 go_loopg [6] m (fun gg s6 wr=>∃ x:Nat,m-x=gg/\x<=m/\s6=.int .i64 x/\aj8 w g w.heap.size m (adH (fun _=>b) m x) wr)
 case atStart=>exact ⟨0,by omega,by omega,rfl,HM0.out⟩
 case round =>
  obtain ⟨x,rfl,hx,rfl,hM⟩:=hrel
  by_cases hlt:x<m
  ·have hil:(x:Int)<(m:Int):=by omega
   have e0:(adH (fun _=>b) m x)[x]?=some ((adH (fun _=>b) m x).getD x false):=by rw [List.getD_eq_getElem?_getD,List.getElem?_eq_getElem (by rw [ahc];exact hlt)];rfl
   have cx:=abf hM.row (j:=x) (u:=.bool ((adH (fun _=>b) m x).getD x false)) (by rw [List.getElem?_map,e0];rfl);have fx:=aci hM.row x;have aoV:=hM.set hlt (b);rw [show (b)=((fun _=>b) x) from rfl,atG _ hlt] at aoV;have HE:=Lib.hid aoV;clear hM aoV e0;go_wp2_with fail
   go_roundg (m-(x+1))
   case measure=>omega
   case rel=>exact ⟨x+1,rfl,by omega,by simp,HE.out⟩
  ·obtain rfl:x=m:=by omega
   have hil:¬ ((x:Int)<(x:Int)):=by omega
   have HM:=Lib.hid hM
   have abP:wr.ownsRow w.heap.size 4 1 (.slice (some ⟨g,0,none⟩) x x) (adH (fun _=>b) x x).length ((adH (fun _=>b) x x).map Value.bool):=by rw [ahc];exact hM.row
   have HRW:=Lib.hid abP;clear hM abP;go_wp2_with fail;refine (atH n (adH (fun _=>b) x x) _ w.heap.size wr HRW.out HMN.out.2.1 (by rw [ahc,HMN.out.1];omega)).mono ?_;rintro e w3 hE;obtain ⟨c,rfl,hT,hu⟩:=hE.ex;rw [avH n x HMN.out.1] at hT;have hsz:=HM.out.up.size;have hrs:=(hu.block w.heap.size (aa4 HM.out.rs) (by simp)).trans HM.out.rs;have z0:w3.cell? ⟨w.heap.size,0,none⟩=some (.int .i64 0):=aac (j:=0) hrs rfl;have z1:w3.cell? ⟨w.heap.size,1,none⟩=some (.slice none 0 0):=aac (j:=1) hrs rfl;have f0:=abq 0 hrs;have f1:=abq 1 hrs;obtain ⟨ca,cn,hc,_⟩:=ahV hT.row;have HE:=Lib.hid (And.intro hT (And.intro (HM.out.up.trans hu) hrs));have HC:=Lib.hid hc;clear hE hT hu hrs hc HRW
   simp only [aeH,aGA]
   rw [HC.out];go_wp2_with fail;obtain ⟨b0,b1⟩:=aG5 HE.out.2.2 (.int .i64 n) (.slice ca (mkT n (fun _=>b)).ws.length cn);refine bodyPost_end (v:=.agg #[.int .i64 n,.slice ca (mkT n (fun _=>b)).ws.length cn]) (by simp [results,Tryz.results90,go_sem,b0,b1]) rfl ?_;have hu:=(HE.out.2.1.setCell (p:=⟨w.heap.size,0,none⟩) (.inr (Nat.le_refl _)) (.int .i64 n)).setCell (p:=⟨w.heap.size,1,none⟩) (.inr (Nat.le_refl _)) (.slice ca (mkT n (fun _=>b)).ws.length cn)
   have hne:some w.heap.size≠c.ownBlock:=fun e=>by
    have h1:=(HE.out.1.row.lt w.heap.size e.symm).1;have h2:=aa4 HM.out.rs;omega
   have r1:=ac9 HE.out.1.row (a:=⟨w.heap.size,0,none⟩) hne (.int .i64 n);have r2:=ac9 r1 (a:=⟨w.heap.size,1,none⟩) hne (.slice ca (mkT n (fun _=>b)).ws.length cn);refine ⟨c,by rw [HC.out];rfl,⟨HE.out.1.ok,aet r2 hsz⟩,hu⟩
theorem aIt (n v:Nat) (w:World) (hn:n<=16) (hv:v<64):Calls Tryz.prog 170 #[.int .i64 n,.int .i64 v] w fun e w'=>aC7 (aLt n v) w e w':=by
 obtain ⟨i2,hi2,hz2,hs2,hb2⟩:=info_parts Tryz.infoBoolR;have HI:=Lib.hid (And.intro hi2 (And.intro hz2 (And.intro hs2 hb2)));have h16:(2:Nat) ^ n<=2 ^ 16:=Nat.pow_le_pow_right (by omega) hn
 have aRZ:(n:Int)<64:=by omega
 have aPi:(v:Int)<64:=by omega
 have hsh:wrap64 (2 ^ n)=((2 ^ n:Nat):Int):=by
  have h2:((2:Int) ^ n)=((2 ^ n:Nat):Int):=by push_cast;rfl
  rw [h2];generalize (2:Nat) ^ n=z at h16
  unfold wrap64;omega
 obtain ⟨m,hm⟩ : ∃ m,2 ^ n=m:=⟨_,rfl⟩;rw [hm] at h16 hsh;have HMN:=Lib.hid (And.intro hm (And.intro hn hsh));clear hi2 hz2 hs2 hb2 hm hn hsh
 go_enter Tryz.func170,Tryz.ntmps170
 have HZ:=Lib.hid (heap_alloc_new w (.cells #[.int .i64 0,.slice none 0 0] 121 (0,0)))
 go_wp2_with (refine wpList_make_full _ rfl (.tmp 8) (.tmp 8) 75 rfl w.heap.size 4 i2 (.bool false) 1 Tryz.underlying75 HI.out.1 HI.out.2.1 HI.out.2.2.1 .i64 .i64 _ _ m rfl rfl HMN.out.2.2 HMN.out.2.2 (by rw [HI.out.2.2.2];omega) (by unfold maxLen;omega) (by rw [World.size_alloc];omega) ?_)
 intro w2 ho hgr
 have hsz:(w.alloc (.cells #[.int .i64 0,.slice none 0 0] 121 (0,0))).heap.size=w.heap.size+1:=by rw [World.size_alloc]
 obtain ⟨g,hg⟩ : ∃ g,w.heap.size+1=g:=⟨_,rfl⟩;rw [hg] at ho;rw [hg]
 have HM0:Hid (aj8 w g w.heap.size m (adH (fun x=>x.testBit v) m 0) w2):=by
  have hu:Upd [] w w2:=((Upd.refl [] w).alloc _).grown hgr (by simp)
  have er:(w2.heap[w.heap.size]?)=some (.cells #[.int .i64 0,.slice none 0 0] 121 (0,0)):=by
   rw [hgr.block w.heap.size (by rw [hsz];omega) (by simp)];exact HZ.out
  refine ⟨?_,er,hu,by omega,by omega⟩;rw [aq0]
  have e:(List.replicate m false).map Value.bool=(madeCells #[Value.bool false] m).toList:=by
   rw [List.map_replicate];exact (aJu m).symm
  rw [e];exact ho
 clear ho hgr hsz HZ hg;go_wp2_with fail
 go_loopg [6] m (fun gg s6 wr=>∃ x:Nat,m-x=gg/\x<=m/\s6=.int .i64 x/\aj8 w g w.heap.size m (adH (fun x=>x.testBit v) m x) wr)
 case atStart=>exact ⟨0,by omega,by omega,rfl,HM0.out⟩
 case round =>
  obtain ⟨x,rfl,hx,rfl,hM⟩:=hrel
  by_cases hlt:x<m
  ·have hil:(x:Int)<(m:Int):=by omega
   have e0:(adH (fun x=>x.testBit v) m x)[x]?=some ((adH (fun x=>x.testBit v) m x).getD x false):=by rw [List.getD_eq_getElem?_getD,List.getElem?_eq_getElem (by rw [ahc];exact hlt)];rfl
   have cx:=abf hM.row (j:=x) (u:=.bool ((adH (fun x=>x.testBit v) m x).getD x false)) (by rw [List.getElem?_map,e0];rfl);have fx:=aci hM.row x;have aoV:=hM.set hlt (x.testBit v);rw [show (x.testBit v)=((fun x=>x.testBit v) x) from rfl,atG _ hlt] at aoV;have HE:=Lib.hid aoV
   have HBT:Hid ((((x:Int)/2 ^ v).tmod 2 == 1)=x.testBit v):=by
    show _=_
    have:=ayK (x:=(x:Int)) (by unfold U64;omega) v;rw [this,aiL]
   clear hM aoV e0;go_wp2_with fail
   go_roundg (m-(x+1))
   case measure=>omega
   case rel=>exact ⟨x+1,rfl,by omega,by simp,by rw [<- HBT.out] at HE;exact HE.out⟩
  ·obtain rfl:x=m:=by omega
   have hil:¬ ((x:Int)<(x:Int)):=by omega
   have HM:=Lib.hid hM
   have abP:wr.ownsRow w.heap.size 4 1 (.slice (some ⟨g,0,none⟩) x x) (adH (fun x=>x.testBit v) x x).length ((adH (fun x=>x.testBit v) x x).map Value.bool):=by rw [ahc];exact hM.row
   have HRW:=Lib.hid abP;clear hM abP;go_wp2_with fail;refine (atH n (adH (fun x=>x.testBit v) x x) _ w.heap.size wr HRW.out HMN.out.2.1 (by rw [ahc,HMN.out.1];omega)).mono ?_;rintro e w3 hE;obtain ⟨c,rfl,hT,hu⟩:=hE.ex;rw [avH n x HMN.out.1] at hT;have hsz:=HM.out.up.size;have hrs:=(hu.block w.heap.size (aa4 HM.out.rs) (by simp)).trans HM.out.rs;have z0:w3.cell? ⟨w.heap.size,0,none⟩=some (.int .i64 0):=aac (j:=0) hrs rfl;have z1:w3.cell? ⟨w.heap.size,1,none⟩=some (.slice none 0 0):=aac (j:=1) hrs rfl;have f0:=abq 0 hrs;have f1:=abq 1 hrs;obtain ⟨ca,cn,hc,_⟩:=ahV hT.row;have HE:=Lib.hid (And.intro hT (And.intro (HM.out.up.trans hu) hrs));have HC:=Lib.hid hc;clear hE hT hu hrs hc HRW
   simp only [aeH,aGA]
   rw [HC.out];go_wp2_with fail;obtain ⟨b0,b1⟩:=aG5 HE.out.2.2 (.int .i64 n) (.slice ca (mkT n (fun x=>x.testBit v)).ws.length cn);refine bodyPost_end (v:=.agg #[.int .i64 n,.slice ca (mkT n (fun x=>x.testBit v)).ws.length cn]) (by simp [results,Tryz.results170,go_sem,b0,b1]) rfl ?_;have hu:=(HE.out.2.1.setCell (p:=⟨w.heap.size,0,none⟩) (.inr (Nat.le_refl _)) (.int .i64 n)).setCell (p:=⟨w.heap.size,1,none⟩) (.inr (Nat.le_refl _)) (.slice ca (mkT n (fun x=>x.testBit v)).ws.length cn)
   have hne:some w.heap.size≠c.ownBlock:=fun e=>by
    have h1:=(HE.out.1.row.lt w.heap.size e.symm).1;have h2:=aa4 HM.out.rs;omega
   have r1:=ac9 HE.out.1.row (a:=⟨w.heap.size,0,none⟩) hne (.int .i64 n);have r2:=ac9 r1 (a:=⟨w.heap.size,1,none⟩) hne (.slice ca (mkT n (fun x=>x.testBit v)).ws.length cn);refine ⟨c,by rw [HC.out];rfl,⟨HE.out.1.ok,aet r2 hsz⟩,hu⟩
theorem aYa (x:Int) (a:Option Addr) (n c:Nat) (w:World):(Instr.field 121 (.agg #[.int .i64 x,.slice a n c]) 1).run Tryz.prog w=.ok (.slice a n c) w:=by kernel_rfl
def aix (F:Nat->Int) (m i:Nat):List Int:=(List.range m).map fun x=>if x<i then F x else 0
theorem avp (F:Nat->Int) (m i:Nat):(aix F m i).length=m:=by simp [aix]
theorem ayn (F:Nat->Int) (m:Nat):aix F m 0=List.replicate m 0:=by
 apply List.ext_getElem?
 intro j
 by_cases h:j<m
 ·simp [aix,h]
 ·simp [aix,h]
theorem aA0 (F:Nat->Int) {m i:Nat} (_hi:i<m):(aix F m i).set i (F i)=aix F m (i+1):=by
 apply List.ext_getElem?
 intro j
 rw [List.getElem?_set]
 by_cases h:j<m
 ·by_cases e:i=j
  ·subst e;simp [aix,h]
  ·rw [if_neg e]
   simp only [aix,List.getElem?_map,List.getElem?_range h,Option.map_some]
   by_cases h2:j<i
   ·rw [if_pos h2,if_pos (by omega)]
   ·rw [if_neg h2,if_neg (by omega)]
 ·by_cases e:i=j
  ·omega
  ·rw [if_neg e];simp [aix,h]
theorem aIu (f:Int->Int) (l:List Int) {m:Nat} (h:l.length=m):aix (fun i=>f (l.getD i 0)) m m=l.map f:=by
 apply List.ext_getElem?
 intro j
 by_cases hj:j<m
 ·have e:l[j]?=some (l.getD j 0):=by rw [List.getD_eq_getElem?_getD,List.getElem?_eq_getElem (by omega)];rfl
  rw [List.getElem?_map,e]
  simp only [aix,List.getElem?_map,List.getElem?_range hj,Option.map_some]
  rw [if_pos hj]
 ·rw [List.getElem?_eq_none (by rw [avp];omega),List.getElem?_eq_none (by rw [List.length_map];omega)]
structure azO (w:World) (n L g B:Nat) (x:Value) (W:List Int) (wr:World):Prop where
 row:wr.ownsRow w.heap.size 90 1 (.slice (some ⟨g,0,none⟩) L L) L (aff W)
 bx:wr.heap[B]?=some (.cells #[.int .i64 n,.slice (some ⟨g,0,none⟩) L L] 121 (0,0))
 rs:wr.heap[w.heap.size+1]?=some (.cells #[.int .i64 0,.slice none 0 0] 121 (0,0))
 tb:wr.heap[w.heap.size]?=some (.cells #[.int .i64 n,x] 121 (0,0))
 up:Upd [] w wr
 ne:g≠B/\g≠w.heap.size+1/\g≠w.heap.size/\B≠w.heap.size+1/\B≠w.heap.size/\w.heap.size<=B
theorem aI3 (w:World) (x y:Value) {wa:World} (h:((w.alloc (.cells #[x,y] 121 (0,0))).alloc (.cells #[.int .i64 0,.slice none 0 0] 121 (0,0))).drew.grownBy wa none) :
  Upd [] w wa/\wa.heap[w.heap.size]?=some (.cells #[x,y] 121 (0,0))/\wa.heap[w.heap.size+1]?=some (.cells #[.int .i64 0,.slice none 0 0] 121 (0,0))/\((w.alloc (.cells #[x,y] 121 (0,0))).alloc (.cells #[.int .i64 0,.slice none 0 0] 121 (0,0))).drew.heap.size=w.heap.size+1+1:=by
 have e:((w.alloc (.cells #[x,y] 121 (0,0))).alloc (.cells #[.int .i64 0,.slice none 0 0] 121 (0,0))).drew.heap.size=w.heap.size+1+1:=by
  show ((w.alloc _).alloc _).heap.size=_
  rw [World.size_alloc,World.size_alloc]
 have u0:=(Upd.refl [] w).alloc (.cells #[x,y] 121 (0,0));have u1:=(Upd.refl [] (w.alloc (.cells #[x,y] 121 (0,0)))).alloc (.cells #[.int .i64 0,.slice none 0 0] 121 (0,0));have n1:=heap_alloc_new (w.alloc (.cells #[x,y] 121 (0,0))) (.cells #[.int .i64 0,.slice none 0 0] 121 (0,0));rw [World.size_alloc] at n1;have n0:=(u1.block _ (aa4 (heap_alloc_new w (.cells #[x,y] 121 (0,0)))) (by simp)).trans (heap_alloc_new w _);refine ⟨((u0.trans u1).drew).grown h (by simp),?_,?_,e⟩
 ·rw [h.block w.heap.size (by rw [e];omega) (by simp)];exact n0
 ·rw [h.block (w.heap.size+1) (by rw [e];omega) (by simp)];exact n1
theorem aI4 (w:World) (x y:Value) {wb:World} (h:(((w.alloc (.cells #[x,y] 121 (0,0))).alloc (.cells #[.int .i64 0,.slice none 0 0] 121 (0,0))).alloc (.cells #[.int .i64 0,.slice none 0 0] 121 (0,0))).drew.grownBy wb none) :
  Upd [] w wb/\wb.heap[w.heap.size]?=some (.cells #[x,y] 121 (0,0))/\wb.heap[w.heap.size+1]?=some (.cells #[.int .i64 0,.slice none 0 0] 121 (0,0))/\wb.heap[w.heap.size+1+1]?=some (.cells #[.int .i64 0,.slice none 0 0] 121 (0,0))/\(((w.alloc (.cells #[x,y] 121 (0,0))).alloc (.cells #[.int .i64 0,.slice none 0 0] 121 (0,0))).alloc (.cells #[.int .i64 0,.slice none 0 0] 121 (0,0))).drew.heap.size=w.heap.size+1+1+1:=by
 have e0:((w.alloc (.cells #[x,y] 121 (0,0))).alloc (.cells #[.int .i64 0,.slice none 0 0] 121 (0,0))).heap.size=w.heap.size+1+1:=by
  rw [World.size_alloc,World.size_alloc]
 have e:(((w.alloc (.cells #[x,y] 121 (0,0))).alloc (.cells #[.int .i64 0,.slice none 0 0] 121 (0,0))).alloc (.cells #[.int .i64 0,.slice none 0 0] 121 (0,0))).drew.heap.size=w.heap.size+1+1+1:=by
  show (((w.alloc _).alloc _).alloc _).heap.size=_
  rw [World.size_alloc,World.size_alloc,World.size_alloc]
 have u0:=(Upd.refl [] w).alloc (.cells #[x,y] 121 (0,0));have u1:=(Upd.refl [] (w.alloc (.cells #[x,y] 121 (0,0)))).alloc (.cells #[.int .i64 0,.slice none 0 0] 121 (0,0));have u2:=(Upd.refl [] ((w.alloc (.cells #[x,y] 121 (0,0))).alloc (.cells #[.int .i64 0,.slice none 0 0] 121 (0,0)))).alloc (.cells #[.int .i64 0,.slice none 0 0] 121 (0,0));have n1:=heap_alloc_new (w.alloc (.cells #[x,y] 121 (0,0))) (.cells #[.int .i64 0,.slice none 0 0] 121 (0,0));have n1':=(u2.block _ (aa4 n1) (by simp)).trans n1;rw [World.size_alloc] at n1';have n0:=(u1.block _ (aa4 (heap_alloc_new w (.cells #[x,y] 121 (0,0)))) (by simp)).trans (heap_alloc_new w _);have n0':=(u2.block _ (aa4 n0) (by simp)).trans n0;have n2:=heap_alloc_new ((w.alloc (.cells #[x,y] 121 (0,0))).alloc (.cells #[.int .i64 0,.slice none 0 0] 121 (0,0))) (.cells #[.int .i64 0,.slice none 0 0] 121 (0,0));rw [e0] at n2;refine ⟨(((u0.trans u1).trans u2).drew).grown h (by simp),?_,?_,?_,e⟩
 ·rw [h.block w.heap.size (by rw [e];omega) (by simp)];exact n0'
 ·rw [h.block (w.heap.size+1) (by rw [e];omega) (by simp)];exact n1'
 ·rw [h.block (w.heap.size+1+1) (by rw [e];omega) (by simp)];exact n2
theorem aI5 {w wa:World} {n L:Nat} {x:Value} (u:Upd [] w wa) (a1:wa.heap[w.heap.size]?=some (.cells #[.int .i64 n,x] 121 (0,0))) (a2:wa.heap[w.heap.size+1]?=some (.cells #[.int .i64 0,.slice none 0 0] 121 (0,0)))
  (oa:wa.ownsRow w.heap.size 90 1 (.slice (some ⟨w.heap.size+1+1,0,none⟩) L L) L (madeCells #[Value.int .u64 0] L).toList) :
  azO w n L (w.heap.size+1+1) wa.heap.size x (List.replicate L 0) (wa.alloc (.cells #[.int .i64 n,.slice (some ⟨w.heap.size+1+1,0,none⟩) L L] 121 (0,0))):=by
 have hg:w.heap.size+1+1<wa.heap.size:=(oa.lt _ rfl).2
 have e:aff (List.replicate L 0)=(madeCells #[Value.int .u64 0] L).toList:=by rw [aff,List.map_replicate];exact (aLn L).symm
 refine ⟨by rw [e];exact oa.alloc _,heap_alloc_new wa _,?_,?_,u.alloc _,by omega,by omega,by omega,by omega,by omega,by omega⟩
 ·rw [Below.heap_alloc _ _ _ (aa4 a2)];exact a2
 ·rw [Below.heap_alloc _ _ _ (aa4 a1)];exact a1
theorem aI6 {w wb:World} {n L:Nat} {x:Value} (u:Upd [] w wb) (b1:wb.heap[w.heap.size]?=some (.cells #[.int .i64 n,x] 121 (0,0))) (b2:wb.heap[w.heap.size+1]?=some (.cells #[.int .i64 0,.slice none 0 0] 121 (0,0))) (b3:wb.heap[w.heap.size+1+1]?=some (.cells #[.int .i64 0,.slice none 0 0] 121 (0,0)))
  (ob:wb.ownsRow w.heap.size 90 1 (.slice (some ⟨w.heap.size+1+1+1,0,none⟩) L L) L (madeCells #[Value.int .u64 0] L).toList) :
  azO w n L (w.heap.size+1+1+1) (w.heap.size+1+1) x (List.replicate L 0) ((wb.setCell ⟨w.heap.size+1+1,0,none⟩ (.int .i64 n)).setCell ⟨w.heap.size+1+1,1,none⟩ (.slice (some ⟨w.heap.size+1+1+1,0,none⟩) L L)):=by
 have e:aff (List.replicate L 0)=(madeCells #[Value.int .u64 0] L).toList:=by rw [aff,List.map_replicate];exact (aLn L).symm
 have h1:=abV (j:=0) b3 (.int .i64 n);have h2:=abV (j:=1) h1 (.slice (some ⟨w.heap.size+1+1+1,0,none⟩) L L);refine ⟨?_,h2,?_,?_,(u.setCell (p:=⟨w.heap.size+1+1,0,none⟩) (.inr (by show w.heap.size<=w.heap.size+1+1;omega)) _).setCell (p:=⟨w.heap.size+1+1,1,none⟩) (.inr (by show w.heap.size<=w.heap.size+1+1;omega)) _,by omega,by omega,by omega,by omega,by omega,by omega⟩
 ·rw [e]
  exact ac9 (ac9 ob (a:=⟨w.heap.size+1+1,0,none⟩) (by simp [Value.ownBlock]) _) (a:=⟨w.heap.size+1+1,1,none⟩) (by simp [Value.ownBlock]) _
 ·rw [acb (by show w.heap.size+1≠w.heap.size+1+1;omega),acb (by show w.heap.size+1≠w.heap.size+1+1;omega)];exact b2
 ·rw [acb (by show w.heap.size≠w.heap.size+1+1;omega),acb (by show w.heap.size≠w.heap.size+1+1;omega)];exact b1
theorem azO.set {w wr:World} {n L g B j:Nat} {x:Value} {W:List Int} (h:azO w n L g B x W wr) (hj:j<L) (z:Int):azO w n L g B x (W.set j z) (wr.setCell ⟨g,j,none⟩ (.int .u64 z)):=by
 have hg:=(h.row.lt g rfl).1;refine ⟨?_,by rw [acb h.ne.1.symm];exact h.bx,by rw [acb h.ne.2.1.symm];exact h.rs,by rw [acb h.ne.2.2.1.symm];exact h.tb,h.up.setCell (p:=⟨g,j,none⟩) (.inr hg) _,h.ne⟩;have:=ae1 h.row (j:=j) (by omega) (.int .u64 z)
 have e:(aff W).set j (.int .u64 z)=aff (W.set j z):=by simp [aff,List.map_set]
 rw [<- e];exact this
theorem azO.upd {w wr w2:World} {n L g B:Nat} {x:Value} {W:List Int} (h:azO w n L g B x W wr) (u:Upd [] wr w2):azO w n L g B x W w2:=by
 have e:∀ {k:Nat} {o:Obj},wr.heap[k]?=some o->w2.heap[k]?=some o:=fun {k o} hk=>by rw [u.block k (aa4 hk) (by simp)];exact hk
 exact ⟨aaX h.row fun k hk=>u.block k (h.row.lt k hk).2 (by simp),e h.bx,e h.rs,e h.tb,h.up.trans u,h.ne⟩
theorem aG6 (Z:List Nat) (c:Value) (t:TV) (v:Nat) (b:Bool) (w:World) (h:TIn w Z c t) (hv:v<t.n) (hv6:v<6) :
  Calls Tryz.prog 116 #[aeH t c,.int .i64 v,.bool b] w fun e w'=>aC7 (aee t v b) w e w':=by
 unfold aeH;obtain ⟨i2,hi2,hz2,hs2,hb2⟩:=info_parts Tryz.infoU64;have HI:=Lib.hid (And.intro hi2 (And.intro hz2 (And.intro hs2 hb2)));have hll:=h.ok.len_le;have h16:=h.ok.n16;obtain ⟨fa,ca,hca,_⟩:=ahV h.row;subst hca;have HT:=Lib.hid h;obtain ⟨L,hL⟩ : ∃ L,t.ws.length=L:=⟨_,rfl⟩;rw [hL] at hll;obtain ⟨n,hn⟩ : ∃ n,t.n=n:=⟨_,rfl⟩;rw [hn] at h16 hv;have HN:=Lib.hid (And.intro hL hn);have abP:=h.row;rw [hL] at abP;have aep:=Lib.hid abP
 simp only [hL,hn]
 clear h hi2 hz2 hs2 hb2 hL hn abP;obtain ⟨a0,a1⟩:=alC w (.int .i64 n) (.slice fa L ca);have HBX:=Lib.hid (heap_alloc_new w (.cells #[.int .i64 n,.slice fa L ca] 121 (0,0)));have HRS:=Lib.hid (heap_alloc_new (w.alloc (.cells #[.int .i64 n,.slice fa L ca] 121 (0,0))) (.cells #[.int .i64 0,.slice none 0 0] 121 (0,0)));have q0:=(((Upd.refl [] _).alloc (.cells #[.int .i64 0,.slice none 0 0] 121 (0,0))).cell (World.block_lt_of_cell? _ _ a0) (by simp)).trans a0;have q1:=(((Upd.refl [] _).alloc (.cells #[.int .i64 0,.slice none 0 0] 121 (0,0))).cell (World.block_lt_of_cell? _ _ a1) (by simp)).trans a1;clear a0 a1
 go_enter Tryz.func116,Tryz.ntmps116
 obtain ⟨wa,ra,oa,ga⟩:=run_make_full (P:=Tryz.prog) ((w.alloc (.cells #[.int .i64 n,.slice fa L ca] 121 (0,0))).alloc (.cells #[.int .i64 0,.slice none 0 0] 121 (0,0))).drew w.heap.size 68 90 i2 (.int .u64 0) 1 Tryz.underlying68 HI.out.1 HI.out.2.1 HI.out.2.2.1 .i64 .i64 L (by rw [HI.out.2.2.2];omega) (by unfold maxLen;omega) (by show w.heap.size<=((w.alloc _).alloc _).heap.size;rw [World.size_alloc,World.size_alloc];omega);obtain ⟨wb,rb,ob,gb⟩:=run_make_full (P:=Tryz.prog) (((w.alloc (.cells #[.int .i64 n,.slice fa L ca] 121 (0,0))).alloc (.cells #[.int .i64 0,.slice none 0 0] 121 (0,0))).alloc (.cells #[.int .i64 0,.slice none 0 0] 121 (0,0))).drew w.heap.size 68 90 i2 (.int .u64 0) 1 Tryz.underlying68 HI.out.1 HI.out.2.1 HI.out.2.2.1 .i64 .i64 L (by rw [HI.out.2.2.2];omega) (by unfold maxLen;omega) (by show w.heap.size<=(((w.alloc _).alloc _).alloc _).heap.size;rw [World.size_alloc,World.size_alloc,World.size_alloc];omega);obtain ⟨ua,a1,a2,a3⟩:=aI3 w _ _ ga;obtain ⟨ub,b1,b2,b3,b4⟩:=aI4 w _ _ gb;have pa0:wa.cell? ⟨w.heap.size,0,none⟩=some (.int .i64 n):=aac a1 rfl;have pa1:wa.cell? ⟨w.heap.size,1,none⟩=some (.slice fa L ca):=aac a1 rfl;have az:=(Upd.refl [] wa).alloc (.cells #[.int .i64 0,.slice none 0 0] 121 (0,0));have pd0:=(az.cell (World.block_lt_of_cell? _ _ pa0) (by simp)).trans pa0;have pd1:=(az.cell (World.block_lt_of_cell? _ _ pa1) (by simp)).trans pa1;have pz:=heap_alloc_new wa (.cells #[.int .i64 0,.slice none 0 0] 121 (0,0));have pe0:(wa.alloc (.cells #[.int .i64 0,.slice none 0 0] 121 (0,0))).cell? ⟨wa.heap.size,0,none⟩=some (.int .i64 0):=aac pz rfl;have pe1:(wa.alloc (.cells #[.int .i64 0,.slice none 0 0] 121 (0,0))).cell? ⟨wa.heap.size,1,none⟩=some (.slice none 0 0):=aac pz rfl;have pg0:=abq 0 pz;have pg1:=abq 1 pz;clear az pz;have pb0:wb.cell? ⟨w.heap.size,0,none⟩=some (.int .i64 n):=aac b1 rfl;have pb1:wb.cell? ⟨w.heap.size,1,none⟩=some (.slice fa L ca):=aac b1 rfl;have pc0:wb.cell? ⟨w.heap.size+1+1,0,none⟩=some (.int .i64 0):=aac b3 rfl;have pc1:wb.cell? ⟨w.heap.size+1+1,1,none⟩=some (.slice none 0 0):=aac b3 rfl;have pf0:=abq 0 b3;have pf1:=abq 1 b3;rw [a3,Nat.mul_one,show (Value.int .u64 0).cells=[Value.int .u64 0].toArray from rfl] at oa;rw [b4,Nat.mul_one,show (Value.int .u64 0).cells=[Value.int .u64 0].toArray from rfl] at ob;have HMA:=Lib.hid (aI5 (n:=n) ua a1 a2 oa);have HMB:=Lib.hid (aI6 (n:=n) ub b1 b2 b3 ob);clear ua a1 a2 a3 ub b1 b2 b3 b4;clear oa ga ob gb;go_wp2_with fail
 go_region
 focus (
  have HM:=Lib.hid HMA.out;generalize wa.heap.size=B at HM;generalize w.heap.size+1+1=g at HM
  generalize (wa.alloc (.cells #[.int .i64 n,.slice (some ⟨g,0,none⟩) L L] 121 (0,0)))=W0 at HM)
 rotate_left
 focus (
  have HM:=Lib.hid HMB.out;generalize w.heap.size+1+1+1=g at HM;generalize w.heap.size+1+1=B at HM
  generalize ((wb.setCell ⟨B,0,none⟩ (.int .i64 n)).setCell ⟨B,1,none⟩ (.slice (some ⟨g,0,none⟩) L L))=W0 at HM)
 all_goals (
  clear HMA HMB pa0 pa1 pb0 pb1 pc0 pc1 pd0 pd1 pe0 pe1 pf0 pf1 pg0 pg1 ra rb q0 q1 HBX HRS
  have hd6:decide ((6:Int)<=(v:Int))=false:=by simp;omega
  go_wp2_with fail;refine (aIt 6 v W0 (by omega) (by omega)).mono ?_;rintro e w3 hE;obtain ⟨cv,rfl,hTv,hu3⟩:=hE.ex;obtain ⟨gv,cvn,hcv,_⟩:=ahV hTv.row;have hLv:(aLt 6 v).ws.length=1:=(amv _ (by omega)).len;subst hcv;rw [hLv] at hTv;obtain ⟨gv1,hgv⟩:=aeP hTv.row (by rw [hLv];omega);subst hgv;obtain ⟨ag6,aLx⟩ : ∃ o,(aLt 6 v).ws.getD 0 0=o:=⟨_,rfl⟩
  have hon:(aLt 6 v).ws[0]?=some ag6:=by rw [<- aLx,List.getD_eq_getElem?_getD,List.getElem?_eq_getElem (by omega)];rfl
  have co:w3.cell? ⟨gv1,0,none⟩=some (.int .u64 ag6):=abf hTv.row (j:=0) (by rw [aff,List.getElem?_map,hon];rfl)
  have HON:Hid (U64 ag6/\∀ i,i<64->nb ag6 i=i.testBit v):=by
   have hok:(aLt 6 v).Ok:=amv _ (by omega);refine ⟨hok.u _ (List.mem_of_getElem? hon),fun i hi=>?_⟩;have hb:=aCV (n:=6) (fun x=>x.testBit v) (x:=i) (by omega);unfold TV.bit at hb;rw [show i/64=0 by omega,show i % 64=i by omega] at hb
   rw [<- aLx];exact hb
  have HM3:=Lib.hid (HM.out.upd hu3);clear hE hTv hu3 aLx hon
  simp only [aeH,hLv]
  clear hLv;have aPu:=aYa;go_wp2_with fail;clear aPu co;have HF0:Hid (aix (fun i=>anD v b ag6 (t.ws.getD i 0)) L 0=List.replicate L 0):=ayn _ _
  go_loopg [12] L (fun gg s12 wr=>∃ x:Nat,L-x=gg/\x<=L/\s12=.int .i64 x/\azO w n L g B (.slice fa L ca) (aix (fun i=>anD v b ag6 (t.ws.getD i 0)) L x) wr)
  case atStart=>exact ⟨0,by omega,by omega,rfl,by rw [HF0.out];exact HM3.out⟩
  case round =>
   obtain ⟨x,rfl,hx,rfl,hM⟩:=hrel;have t1:wr.cell? ⟨w.heap.size,1,none⟩=some (.slice fa L ca):=aac (j:=1) hM.tb rfl;have s0:wr.cell? ⟨B,0,none⟩=some (.int .i64 n):=aac (j:=0) hM.bx rfl;have s1:wr.cell? ⟨B,1,none⟩=some (.slice (some ⟨g,0,none⟩) L L):=aac (j:=1) hM.bx rfl
   by_cases hlt:x<L
   ·have hil:(x:Int)<(L:Int):=by omega
    obtain ⟨ga,rfl⟩:=aep.out.some_ (by omega)
    have hr:=aep.out.kp fun k hk=>hM.up.block k (aep.out.lt k hk).2 (by simp)
    obtain ⟨X,hX⟩ : ∃ X,t.ws.getD x 0=X:=⟨_,rfl⟩
    have e0:t.ws[x]?=some X:=by rw [<- hX,List.getD_eq_getElem?_getD,List.getElem?_eq_getElem (by rw [HN.out.1];exact hlt)];rfl
    have cx:wr.cell? (ga.add x)=some (.int .u64 X):=hr.cells _ _ _ rfl x _ (by rw [aff,List.getElem?_map,e0];rfl);obtain ⟨Y,hY⟩ : ∃ Y,(aix (fun i=>anD v b ag6 (t.ws.getD i 0)) L x).getD x 0=Y:=⟨_,rfl⟩
    have e1:(aix (fun i=>anD v b ag6 (t.ws.getD i 0)) L x)[x]?=some Y:=by rw [<- hY,List.getD_eq_getElem?_getD,List.getElem?_eq_getElem (by rw [avp];exact hlt)];rfl
    have cy:wr.cell? ⟨g,x,none⟩=some (.int .u64 Y):=abf hM.row (by rw [aff,List.getElem?_map,e1];rfl);have fy:=aci hM.row x;have aoV:=hM.set hlt (anD v b ag6 X);rw [<- hX,aA0 (fun i=>anD v b ag6 (t.ws.getD i 0)) hlt,hX] at aoV;have HE:=Lib.hid aoV
    have hp1:(2:Nat) ^ v<=32:=by
     have:(2:Nat) ^ v<=2 ^ 5:=Nat.pow_le_pow_right (by omega) (by omega);omega
    have aPi:(v:Int)<64:=by omega
    have hsv:IntKind.u64.wrap (2 ^ v)=((2 ^ v:Nat):Int):=by
     have h2:((2:Int) ^ v)=((2 ^ v:Nat):Int):=by push_cast;rfl
     rw [h2]
     have e:∀ z:Nat,z<=32->IntKind.u64.wrap (z:Int)=(z:Int):=fun z hz=>by
      have:IntKind.u64.wrap (z:Int)=(z:Int) % 18446744073709551616:=rfl
      rw [this];omega
     exact e _ hp1
    obtain ⟨sv,aLy⟩ : ∃ sv,2 ^ v=sv:=⟨_,rfl⟩;rw [aLy] at hp1 hsv
    have a4A:(sv:Int)<64:=by omega
    clear hM aoV hr e0 e1 hX hY
    cases b with
    | true =>
     have HW:Hid (anD v true ag6 X=bits BinOp.or IntKind.u64 (bits BinOp.and IntKind.u64 X ag6) (bits BinOp.and IntKind.u64 X ag6/2 ^ sv)):=by
      show anD v true ag6 X=_
      unfold anD;rw [if_pos rfl,aLy]
     clear aLy;go_wp2_with fail
     go_region
     go_wp2_with fail
     go_roundg (L-(x+1))
     case measure=>omega
     case rel=>exact ⟨x+1,rfl,by omega,by simp,by rw [HW.out] at HE;exact HE.out.upd ((Upd.refl [] _).drew)⟩
    | false =>
     have HW:Hid (anD v false ag6 X=bits BinOp.or IntKind.u64 (bits BinOp.andNot IntKind.u64 X ag6) (IntKind.u64.wrap (bits BinOp.andNot IntKind.u64 X ag6*2 ^ sv))):=by
      show anD v false ag6 X=_
      unfold anD;rw [if_neg (by simp),aLy]
     clear aLy;go_wp2_with fail
     go_region
     go_wp2_with fail
     go_roundg (L-(x+1))
     case measure=>omega
     case rel=>exact ⟨x+1,rfl,by omega,by simp,by rw [HW.out] at HE;exact HE.out.upd ((Upd.refl [] _).drew)⟩
   ·obtain rfl:x=L:=by omega
    have hil:¬ ((x:Int)<(x:Int)):=by omega
    have z0:wr.cell? ⟨w.heap.size+1,0,none⟩=some (.int .i64 0):=aac (j:=0) hM.rs rfl;have z1:wr.cell? ⟨w.heap.size+1,1,none⟩=some (.slice none 0 0):=aac (j:=1) hM.rs rfl;have f0:=abq 0 hM.rs;have f1:=abq 1 hM.rs;have HM4:=Lib.hid hM;clear hM;go_wp2_with fail;obtain ⟨b0,b1⟩:=aG5 HM4.out.rs (.int .i64 n) (.slice (some ⟨g,0,none⟩) x x);refine bodyPost_ret (v:=.agg #[.int .i64 n,.slice (some ⟨g,0,none⟩) x x]) (by simp [results,Tryz.results116,go_sem,b0,b1]) rfl ?_;have aOX:=aNw HT.out.ok hv6 (by rw [HN.out.2];exact hv) b HON.out.1 HON.out.2;have aOZ:=aIu (anD v b ag6) t.ws HN.out.1;have abP:=HM4.out.row;rw [aOZ] at abP
    have ar6:wr.ownsRow w.heap.size 90 1 (.slice (some ⟨g,0,none⟩) x x) (aee t v b).ws.length (aff (aee t v b).ws):=by
     rw [aOX]
     show wr.ownsRow _ _ _ _ (t.ws.map (anD v b ag6)).length _
     rw [List.length_map,HN.out.1];exact abP
    have hu:=(HM4.out.up.setCell (p:=⟨w.heap.size+1,0,none⟩) (.inr (by show w.heap.size<=w.heap.size+1;omega)) (.int .i64 n)).setCell (p:=⟨w.heap.size+1,1,none⟩) (.inr (by show w.heap.size<=w.heap.size+1;omega)) (.slice (some ⟨g,0,none⟩) x x);have hg2:=HM4.out.ne.2.1;have r1:=ac9 ar6 (a:=⟨w.heap.size+1,0,none⟩) (by simpa [Value.ownBlock] using Ne.symm hg2) (.int .i64 n);have r2:=ac9 r1 (a:=⟨w.heap.size+1,1,none⟩) (by simpa [Value.ownBlock] using Ne.symm hg2) (.slice (some ⟨g,0,none⟩) x x)
    exact ⟨_,by simp only [aeH];rw [show (aee t v b).n=n from HN.out.2],⟨aoW HT.out.ok v b,r2⟩,hu⟩)
end Go.Proofs.YtdackeldhdchaaaGreat
