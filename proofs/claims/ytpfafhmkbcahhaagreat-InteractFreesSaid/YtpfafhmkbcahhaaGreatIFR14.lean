import Derived.Test.YtpfafhmkbcahhaaGreatIFR13
import Derived.Test.YtpfafhmkbcahhaaGreatIFR7
import Derived.Test.YtpfafhmkbcahhaaGreatIFR11
import Derived.Test.YtpfafhmkbcahhaaGreatIFR5
import Derived.RangeFuncNested
import Derived.RangeFuncBound
import Derived.Deep.QuietTactic
set_option maxRecDepth 100000
set_option maxHeartbeats 2000000
namespace Go.Proofs.YtpfafhmkbcahhaaGreat
open Go.RowKit Go.Maps Go.ChangeMaps Go.WideShapes Go.Shelf
attribute [local go_sem] Oper.semAt_some
theorem Tryz.infoRefE:(Tryz.prog.info? 54).map (fun i=>(i.zero,i.size,i.bytes))=some (some (.int .u32 0),1,4):=by kernel_rfl
structure GatherQ (D:DM) (n0:Nat) (w:World) (e:Ending) (w':World):Prop where
 ex:∃ (v:Value) (l:List Int),e=.returned v/\AllVals D l/\w'.ownsRow n0 54 1 v l.length (l.map (Value.int .u32))/\Below w.heap.size w w'
theorem appendSeq_in (n:Nat) (hn:3<=n) (Bm b nn:Nat) (D:DM) (w:World) (hBm:Bm<w.heap.size) (hm:w.cell? ⟨Bm,0,none⟩=some (.map (some b))) (hown:w.ownsMap Tryz.prog 115 (plainElem Tryz.prog 54) b nn D) (hsz:Maps.size D<=1048576) :
  CallsIn Fence.wide n Tryz.prog 252 #[.slice none 0 0,.func (.func 251) #[] #[.pointer (some ⟨Bm,0,none⟩)]] w fun e w'=>GatherQ D w.heap.size w e w':=by
 have h1:1<=n:=by omega
 obtain ⟨i0,hi,hz0,hz1,hz2⟩:=info_parts Tryz.infoRefE;refine callsIn_of_wp_marks Tryz.func252 rfl trivial ?_ rfl
 simp only [Tryz.ntmps252,List.size_toArray,List.length_cons,List.length_nil,Nat.reduceAdd,Nat.reduceSub,Array.replicate_succ,Array.replicate_zero,List.push_toArray,List.append_toArray,List.nil_append,List.cons_append]
 gi_wp2
 have bO:=Boxed.new w 28 (.slice none 0 0);have hB0:Below w.heap.size w (w.alloc (.cells #[.slice none 0 0] 28)):=(Below.refl _ w).alloc (Nat.le_refl _) _;have hm1:(w.alloc (.cells #[.slice none 0 0] 28)).cell? ⟨Bm,0,none⟩=some (.map (some b)):=(hB0.cell (p:=⟨Bm,0,none⟩) hBm).trans hm;have hown1:(w.alloc (.cells #[.slice none 0 0] 28)).ownsMap Tryz.prog 115 (plainElem Tryz.prog 54) b nn D:=own_keep hown (hB0.block b hown.lt)
 refine wpIn_rangeFunc_ownG rfl h1 (gf:=251) (lb:=#[.pointer (some ⟨Bm,0,none⟩)]) rfl trivial (enters_of Tryz.func251 (by kernel_rfl) rfl)
  (values_stops (n-1) (by omega) Bm b nn D _ (by simp;omega) hm1 hown1) walksK_t walksK_b (Below.refl _ _) (fun _=>rfl)
  (fun pre W=>(∃ v,Boxed W w.heap.size 28 v/\W.ownsRow w.heap.size 54 1 v pre.length (pre.map (Value.int .u32))/\True)/\Below w.heap.size w W)
  (fun _ _ _=>False)
  (OwnFrom.and (Own.from (holdsRow_own w.heap.size w.heap.size 28 54 1 (fun pre:List Int=>pre.length) (fun pre=>pre.map (Value.int .u32)) (fun _ _=>True)) _) (ownFrom_below (Nat.le_refl _) (by simp)))
  (fun _ _ _ _ _ hs _ _=>hs)
  ⟨⟨_,bO,World.ownsRow_nil _ _ _ _,trivial⟩,hB0⟩
  (fun x=>{ tmps:=#[.slice none 0 0,.func (.func 251) #[] #[.pointer (some ⟨Bm,0,none⟩)],.pointer (some ⟨w.heap.size,0,none⟩),undef,.slice none 0 0,.int .u32 x,.func (.func 251) #[] #[.pointer (some ⟨Bm,0,none⟩)],.int .u32 x,undef,undef,undef,undef,undef],defers:=[] }) ?assign ?body ?done ?stop
 case assign =>
  intro l x W K hK
  gi_wp2
  exact hK
 case body =>
  rintro l pre x W ⟨⟨v,hv,hrow,_⟩,hB⟩ hlt;have hc:=hv.cell
  gi_wp2_with (gi_at_builtin;refine wpListIn_append_own _ rfl _ _ 28 rfl w.heap.size 54 i0 (.int .u32 0) 1 4 Tryz.underlying28 hi hz0 hz1 hz2 rfl (by decide) _ _ _ rfl (hrow.alloc _) ⟨W.heap.size,0,none⟩ 1 1 [.int .u32 x] rfl rfl (cell_one_new _ _ _) (by simp [Value.oneCell']) (by unfold maxLen;omega) (by omega) (by have:=hB.size;simp;omega) ?_;intro v' w1 hown' hgrow _;obtain ⟨g',cap',rfl⟩:=ownsRow_succ hown';obtain ⟨hv1,hv2,hr2,hk2,hb2⟩:=hv.appended (by decide) hrow hB.size (Nat.le_refl _) hown' hgrow;have hc1:=hv1.cell;have hf1:=hv1.frozen)
  exact ⟨hk2.from _,hk2.walks,⟨_,hv2,by simpa using hr2,trivial⟩,hB.trans hb2⟩
 case done =>
  rintro Dd ys W hD hys ⟨⟨v,hv,hrow,_⟩,hB⟩ hK;have hc:=hv.cell
  gi_wp2
  refine ⟨by simp,.inl ⟨_,_,rfl,run_takeDeferred hK,?_⟩⟩;exact ⟨_,results_tmp rfl _ _ _,v,ys,rfl,hys,ownsRow_putObj hrow _ hK rfl,hB.trans (belowK_b (w:=w) (Nat.le_refl _) W Dd _ _ (by simp at hD;omega) hK rfl rfl)⟩
 case stop =>
  rintro Dd c pre W _ _ h _;exact h.elim
theorem collect_in (n:Nat) (hn:4<=n) (Bm b nn:Nat) (D:DM) (w:World) (hBm:Bm<w.heap.size) (hm:w.cell? ⟨Bm,0,none⟩=some (.map (some b))) (hown:w.ownsMap Tryz.prog 115 (plainElem Tryz.prog 54) b nn D) (hsz:Maps.size D<=1048576) :
  CallsIn Fence.wide n Tryz.prog 249 #[.func (.func 251) #[] #[.pointer (some ⟨Bm,0,none⟩)]] w fun e w'=>GatherQ D w.heap.size w e w':=by
 refine callsIn_of_wp Tryz.func249 rfl trivial ?_ rfl
 simp only [Tryz.ntmps249,List.size_toArray,List.length_cons,List.length_nil,Nat.reduceAdd,Nat.reduceSub,Array.replicate_succ,Array.replicate_zero,List.push_toArray,List.append_toArray,List.nil_append,List.cons_append]
 gi_wp2
 refine ⟨trivial,fun _=>by omega,?_⟩;refine (appendSeq_in (n-1) (by omega) Bm b nn D _ hBm hm hown hsz).mono ?_;rintro e w' hE;obtain ⟨v,l,rfl,hl,hr,hB⟩:=hE.ex;clear hE
 gi_wp2
 go_ret;exact ⟨v,l,rfl,hl,hr,hB⟩
end Go.Proofs.YtpfafhmkbcahhaaGreat
namespace Go.Proofs.YtpfafhmkbcahhaaGreat
open Go.RowKit Go.Maps Go.ChangeMaps Go.WideShapes
theorem len64_zero (w:World):Calls Tryz.prog 265 #[.int .u64 0] w fun e w'=>(∃ c:Int,e=.returned (.int .i64 c))/\w'=w:=by
 go_enter Tryz.func265,Tryz.ntmps265
 go_wp2_with fail;go_ret;exact ⟨⟨_,rfl⟩,rfl⟩
theorem len_zero (w:World):Calls Tryz.prog 254 #[.int .u64 0] w fun e w'=>(∃ c:Int,e=.returned (.int .i64 c))/\w'=w:=by
 go_enter Tryz.func254,Tryz.ntmps254
 go_wp2_with fail;refine (len64_zero _).mono ?_;rintro e w1 ⟨⟨c,rfl⟩,rfl⟩;go_wp2_with fail;go_ret;exact ⟨⟨_,rfl⟩,rfl⟩
theorem insSort_empty (a:Option Addr) (c:Nat) (w:World):Calls Tryz.prog 255 #[.slice a 0 c,.int .i64 0,.int .i64 0] w fun e w'=>e=.returned (.tuple #[])/\w'=w:=by
 go_enter Tryz.func255,Tryz.ntmps255
 go_wp2_with fail
 go_loopg [6] 0 (fun gg s6 wr=>gg=0/\s6=.int .i64 1/\wr=w)
 case atStart=>exact ⟨rfl,rfl,rfl⟩
 case round =>
  obtain ⟨rfl,rfl,rfl⟩:=hrel;go_wp2_with fail;go_end0;exact ⟨rfl,rfl⟩
theorem pdq_empty (a:Option Addr) (c:Nat) (l:Int) (w:World):Calls Tryz.prog 253 #[.slice a 0 c,.int .i64 0,.int .i64 0,.int .i64 l] w fun e w'=>e=.returned (.tuple #[])/\w'=w:=by
 go_enter Tryz.func253,Tryz.ntmps253
 go_wp2_with fail
 go_loopg [1,2,3] 0 (fun gg s1 s2 s3 wr=>gg=0/\s1=.int .i64 0/\s2=.int .i64 0/\wr=w)
 case atStart=>exact ⟨rfl,rfl,rfl,rfl⟩
 case round =>
  obtain ⟨rfl,rfl,rfl,rfl⟩:=hrel;go_wp2_with fail;refine (insSort_empty a c _).mono ?_;rintro e w1 ⟨rfl,rfl⟩;go_wp2_with fail;refine bodyPost_ret (results_none rfl _ _ _) rfl ?_;exact ⟨rfl,rfl⟩
theorem sort_empty (a:Option Addr) (c:Nat) (w:World):Calls Tryz.prog 250 #[.slice a 0 c] w fun e w'=>e=.returned (.tuple #[])/\w'=w:=by
 go_enter Tryz.func250,Tryz.ntmps250
 go_wp2_with fail;refine (len_zero _).mono ?_;rintro e w1 ⟨⟨l,rfl⟩,rfl⟩;go_wp2_with fail;refine (pdq_empty a c l _).mono ?_;rintro e w2 ⟨rfl,rfl⟩;go_wp2_with fail;go_end0;exact ⟨rfl,rfl⟩
theorem collect_calls (Bm b nn:Nat) (D:DM) (w:World) (hBm:Bm<w.heap.size) (hm:w.cell? ⟨Bm,0,none⟩=some (.map (some b))) (hown:w.ownsMap Tryz.prog 115 (plainElem Tryz.prog 54) b nn D) (hsz:Maps.size D<=1048576) :
  Calls Tryz.prog 249 #[.func (.func 251) #[] #[.pointer (some ⟨Bm,0,none⟩)]] w fun e w'=>GatherQ D w.heap.size w e w' :=
 callsIn_wide.1 (collect_in 10 (by omega) Bm b nn D w hBm hm hown hsz)
theorem values_calls (mb:Option Nat) (w:World) :
  Calls Tryz.prog 248 #[.map mb] w fun e w'=>e=.returned (.func (.func 251) #[] #[.pointer (some ⟨w.heap.size,0,none⟩)])/\w'=w.alloc (.cells #[.map mb] 284) :=
 callsIn_wide.1 (values_in 10 mb w)
theorem below_upd {n:Nat} {w w':World} (h:Below n w w') (hn:w.heap.size<=n):Upd [] w w' :=
 ⟨h.os,h.tape,h.output,h.size,fun k hk _=>h.block k (by omega)⟩
theorem flatN_set (l:List Nat) (r n:Nat):(flatN l).set r (.int .i64 n)=flatN (l.set r n):=by simp [flatN,List.map_set]
theorem KerMem.setOrder {w:World} {b g n' c r n:Nat} {K:KV} {T:List DM} {q:KPtr} (h:KerMem w b K T q) (hq:q.ov=.slice (some ⟨g,0,none⟩) n' c) (hr:r<K.order.length) :
  KerMem (w.setCell ⟨g,r,none⟩ (.int .i64 n)) b { K with order:=K.order.set r n } T q:=by
 have hg:q.o g=5:=h.oo g (by rw [hq];rfl)
 have hne:∀ {k c},q.o k=c->c≠5->k≠g:=fun {k c} hk hc hm=>hc (by rw [<- hk,hm,hg])
 have hk:∀ {k c},q.o k=c->c≠5->(w.setCell ⟨g,r,none⟩ (.int .i64 n)).heap[k]?=w.heap[k]?:=fun hk hc=>heap_set_ne (hne hk hc)
 refine ⟨by rw [hk h.ob (by omega)];exact h.blk,h.ar.keep fun k hm=>hk (h.oa k hm) (by omega),h.tab.keep fun k hm=>hk (h.ot k hm) (by omega),row_keep h.us fun k hm=>hk (h.ou k hm) (by omega),
  row_keep h.hs fun k hm=>hk (h.oh k hm) (by omega),?_,row_keep h.ls fun k hm=>hk (h.ol k hm) (by omega),row_keep h.ts fun k hm=>hk (h.ox k hm) (by omega),
  h.ob,h.oa,h.ot,h.ou,h.oh,h.oo,h.ol,h.ox⟩
 have hu:=h.os;rw [hq] at hu ⊢;have:=row_set hu (j:=r) (by omega) (.int .i64 n);rw [flatN_set] at this
 simpa using this
theorem KerMem.setLevel {w:World} {b g n' c r n:Nat} {K:KV} {T:List DM} {q:KPtr} (h:KerMem w b K T q) (hq:q.lv=.slice (some ⟨g,0,none⟩) n' c) (hr:r<K.level.length) :
  KerMem (w.setCell ⟨g,r,none⟩ (.int .i64 n)) b { K with level:=K.level.set r n } T q:=by
 have hg:q.o g=6:=h.ol g (by rw [hq];rfl)
 have hne:∀ {k c},q.o k=c->c≠6->k≠g:=fun {k c} hk hc hm=>hc (by rw [<- hk,hm,hg])
 have hk:∀ {k c},q.o k=c->c≠6->(w.setCell ⟨g,r,none⟩ (.int .i64 n)).heap[k]?=w.heap[k]?:=fun hk hc=>heap_set_ne (hne hk hc)
 refine ⟨by rw [hk h.ob (by omega)];exact h.blk,h.ar.keep fun k hm=>hk (h.oa k hm) (by omega),h.tab.keep fun k hm=>hk (h.ot k hm) (by omega),row_keep h.us fun k hm=>hk (h.ou k hm) (by omega),
  row_keep h.hs fun k hm=>hk (h.oh k hm) (by omega),row_keep h.os fun k hm=>hk (h.oo k hm) (by omega),?_,row_keep h.ts fun k hm=>hk (h.ox k hm) (by omega),
  h.ob,h.oa,h.ot,h.ou,h.oh,h.oo,h.ol,h.ox⟩
 have hu:=h.ls;rw [hq] at hu ⊢;have:=row_set hu (j:=r) (by omega) (.int .i64 n);rw [flatN_set] at this
 simpa using this
theorem KerMem.growTrail {w w5:World} {b g5 cap l:Nat} {X:Obj} {K:KV} {T:List DM} {q:KPtr} (h:KerMem w b K T q) (hg:(w.alloc X).grownBy w5 q.tv.ownBlock) (hat:q.tv.ownBlock=some g5\/g5=w.heap.size+1)
  (hown:w5.ownsRow 0 3 1 (.slice (some ⟨g5,0,none⟩) (K.trail.length+1) cap) (K.trail.length+1) (flatN K.trail++[.int .i64 l])) :
  KerMem (w5.setCell ⟨b,7,none⟩ (.slice (some ⟨g5,0,none⟩) (K.trail.length+1) cap)) b { K with trail:=K.trail++[l] } T { q with tv:=.slice (some ⟨g5,0,none⟩) (K.trail.length+1) cap,o:=retag q w.heap.size 7 }:=by
 have hb:=heap_lt h.blk
 have hbg:b≠g5:=by
  rcases hat with e | e
  ·rintro rfl;have e1:=h.ob;have e2:=h.ox b e;omega
  ·omega
 have keep:∀ {k c:Nat},q.o k=c->c≠7->c≠0->k<w.heap.size->(w5.setCell ⟨b,7,none⟩ (.slice (some ⟨g5,0,none⟩) (K.trail.length+1) cap)).heap[k]?=w.heap[k]?:=by
  intro k c hk hc h0 hl
  rw [heap_set_ne (by rintro rfl;exact h0 (hk ▸ h.ob)),hg.block k (by rw [World.size_alloc];omega) (fun e=>hc (hk ▸ h.ox k e.symm)),Below.heap_alloc _ _ _ hl]
 have hbk:w5.heap[b]?=w.heap[b]?:=by
  rw [hg.block b (by rw [World.size_alloc];omega) (fun e=>by have e1:=h.ob;have e2:=h.ox b e.symm;omega),Below.heap_alloc _ _ _ hb]
 rw [h.blk] at hbk
 refine ⟨by rw [heap_set_eq hbk];simp,h.ar.keep fun k hm=>keep (h.oa k hm) (by omega) (by omega) (h.ar.lt k hm),h.tab.keep fun k hm=>keep (h.ot k hm) (by omega) (by omega) (h.tab.lt k hm),
  row_keep h.us fun k hm=>keep (h.ou k hm) (by omega) (by omega) (h.us.lt k hm).2,row_keep h.hs fun k hm=>keep (h.oh k hm) (by omega) (by omega) (h.hs.lt k hm).2,row_keep h.os fun k hm=>keep (h.oo k hm) (by omega) (by omega) (h.os.lt k hm).2,row_keep h.ls fun k hm=>keep (h.ol k hm) (by omega) (by omega) (h.ls.lt k hm).2,?_,?_,?_,?_,?_,?_,?_,?_,?_⟩
 ·show World.ownsRow _ 0 _ 1 _ (K.trail++[l]).length (flatN (K.trail++[l]))
  have e:=row_ne hown (a:=⟨b,7,none⟩) (by simpa [Value.ownBlock] using hbg) (.slice (some ⟨g5,0,none⟩) (K.trail.length+1) cap)
  simpa [flatN] using e
 ·show retag q _ _ b=0
  rw [retag_old hb];exact h.ob
 ·intro k hk;show retag q _ _ k=1;rw [retag_old (h.ar.lt k hk)];exact h.oa k hk
 ·intro k hk;show retag q _ _ k=2;rw [retag_old (h.tab.lt k hk)];exact h.ot k hk
 ·intro k hk;show retag q _ _ k=3;rw [retag_old (h.us.lt k hk).2];exact h.ou k hk
 ·intro k hk;show retag q _ _ k=4;rw [retag_old (h.hs.lt k hk).2];exact h.oh k hk
 ·intro k hk;show retag q _ _ k=5;rw [retag_old (h.os.lt k hk).2];exact h.oo k hk
 ·intro k hk;show retag q _ _ k=6;rw [retag_old (h.ls.lt k hk).2];exact h.ol k hk
 ·intro k hk
  simp [Value.ownBlock] at hk;subst hk
  show retag q _ _ g5=7
  rcases hat with e | e
  ·rw [retag_old (h.ts.lt g5 e).2];exact h.ox g5 e
  ·unfold retag;rw [if_pos (by omega)]
def KV.swapK (K:KV) (l:Nat):KV:={ K with order:=(K.order.set l (K.order.getD (l+1) 0)).set (l+1) (K.order.getD l 0),level:=(K.level.set (K.order.getD l 0) (l+1)).set (K.order.getD (l+1) 0) l }
theorem getD_eq_some {l:List Nat} {i:Nat} (h:i<l.length):l[i]?=some (l.getD i 0):=by
 rw [List.getD_eq_getElem?_getD,List.getElem?_eq_getElem h];rfl
theorem Tryz.infoIntE:(Tryz.prog.info? 3).map (fun i=>(i.zero,i.size,i.bytes))=some (some (.int .i64 0),1,8):=by kernel_rfl
theorem rowN_cell {w:World} {base g n' c:Nat} {l:List Nat} {n:Nat} (h:w.ownsRow base 3 1 (.slice (some ⟨g,0,none⟩) n' c) n (flatN l)) {j:Nat} (hj:j<l.length):w.cell? ⟨g,j,none⟩=some (.int .i64 (l.getD j 0:Nat)) :=
 row_cell h (by rw [flatN,List.getElem?_map,getD_eq_some hj];rfl)
theorem turn_end {b l go gl co cl n1 n2:Nat} {K:KV} {T:List DM} {q:KPtr} {w:World} (hm:KerMem w b K T q) (ho:q.ov=.slice (some ⟨go,0,none⟩) n1 co) (hv:q.lv=.slice (some ⟨gl,0,none⟩) n2 cl) (h1:l<K.order.length) (h2:l+1<K.order.length)
  (h3:K.order.getD l 0<K.level.length) (h4:K.order.getD (l+1) 0<K.level.length) :
  KerMem ((((w.setCell ⟨go,l,none⟩ (.int .i64 (K.order.getD (l+1) 0:Nat))).setCell ⟨go,l+1,none⟩ (.int .i64 (K.order.getD l 0:Nat))).setCell ⟨gl,K.order.getD l 0,none⟩ (.int .i64 ((l:Int)+1))).setCell ⟨gl,K.order.getD (l+1) 0,none⟩ (.int .i64 l)).drew.drew b (K.swapK l) T q /\
  Upd (q.all b) w ((((w.setCell ⟨go,l,none⟩ (.int .i64 (K.order.getD (l+1) 0:Nat))).setCell ⟨go,l+1,none⟩ (.int .i64 (K.order.getD l 0:Nat))).setCell ⟨gl,K.order.getD l 0,none⟩ (.int .i64 ((l:Int)+1))).setCell ⟨gl,K.order.getD (l+1) 0,none⟩ (.int .i64 l)).drew.drew:=by
 have m1:=hm.setOrder (n:=K.order.getD (l+1) 0) ho h1;have m2:=m1.setOrder (n:=K.order.getD l 0) (r:=l+1) ho (by simpa using h2);have m3:=m2.setLevel (n:=l+1) (r:=K.order.getD l 0) hv h3;have m4:=m3.setLevel (n:=l) (r:=K.order.getD (l+1) 0) hv (by rw [List.length_set];exact h4);have go1:go∈q.all b:=KPtr.mem.2 (.inr (.inr (.inr (.inr (.inr (.inl (by rw [ho];rfl)))))));have gl1:gl∈q.all b:=KPtr.mem.2 (.inr (.inr (.inr (.inr (.inr (.inr (.inl (by rw [hv];rfl))))))))
 exact ⟨(m4.upd ((Upd.refl [] _).drew) (by simp)).upd ((Upd.refl [] _).drew) (by simp),
  ((((((Upd.refl (q.all b) w).setCell (p:=⟨go,l,none⟩) (.inl go1) _).setCell (p:=⟨go,l+1,none⟩) (.inl go1) _).setCell (p:=⟨gl,_,none⟩) (.inl gl1) _).setCell (p:=⟨gl,_,none⟩) (.inl gl1) _).drew).drew⟩
theorem order_at_spec (b:Nat) (K:KV) (F:List Nat) (w:World) (h:KerAt w b K F) :
  Calls Tryz.prog 38 #[.pointer (some ⟨b,0,none⟩)] w fun e w'=>∃ (g cap:Nat),e=.returned (.slice (some ⟨g,0,none⟩) K.order.length cap)/\w'.ownsRow w.heap.size 3 1 (.slice (some ⟨g,0,none⟩) K.order.length cap) K.order.length (flatN K.order)/\Upd [] w w':=by
 obtain ⟨T,q,hk,rfl⟩:=h;have h1:=hk.ok.wf.vs;have h2:=hk.ok.ord.pm.ol;exact order_spec b K T q w hk.mem (by omega) (by omega)
theorem live_at (b:Nat) (K:KV) (F:List Nat) (w:World) (h:KerAt w b K F) :
  Calls Tryz.prog 39 #[.pointer (some ⟨b,0,none⟩)] w fun e w'=>e=.returned (.int .i64 ((K.A.used:Int)-2))/\w'=w:=by
 obtain ⟨T,q,hk,rfl⟩:=h;exact live_count b K T q w hk.mem
theorem vars_at (b:Nat) (K:KV) (F:List Nat) (w:World) (h:KerAt w b K F) :
  Calls Tryz.prog 54 #[.pointer (some ⟨b,0,none⟩)] w fun e w'=>e=.returned (.int .i64 K.vars)/\w'=w:=by
 obtain ⟨T,q,hk,rfl⟩:=h;exact vars_spec b K T q w hk.mem
theorem roots_at (b:Nat) (K:KV) (F:List Nat) (w:World) (h:KerAt w b K F) :
  Calls Tryz.prog 51 #[.pointer (some ⟨b,0,none⟩)] w fun e w'=>∃ v:Value,e=.returned v/\w'.ownsRow w.heap.size 54 1 v K.roots.length (flatRefs K.roots)/\Upd [] w w':=by
 obtain ⟨T,q,hk,rfl⟩:=h;exact roots_spec b K T q w hk
theorem node_at_yes (b r:Nat) (K:KV) (F:List Nat) (p:PlaceV) (w:World) (h:KerAt w b K F) (hp:K.A.list[r]?=some p) (hpt:p.taken=true) :
  Calls Tryz.prog 61 #[.pointer (some ⟨b,0,none⟩),.int .u32 r] w fun e w'=>e=.returned (.tuple #[.agg #[.int .i64 p.var,.int .u32 p.lo,.int .u32 p.hi],.int .i64 0])/\Upd [] w w':=by
 obtain ⟨T,q,hk,rfl⟩:=h;have:=hk.ok.ref_lt (ArenaV.tk_iff.2 ⟨p,hp,hpt⟩);exact nodeof_yes b r K T q p w hk.mem (by omega) hp hpt
theorem flatRefs_get {l:List Nat} {i r:Nat} (h:l[i]?=some r):(flatRefs l)[i]?=some (.int .u32 r):=by rw [flatRefs,List.getElem?_map,h];rfl
theorem Tryz.infoRefS:(Tryz.prog.info? 54).map (fun i=>(i.zero,i.size,i.bytes))=some (some (.int .u32 0),1,4):=by kernel_rfl
end Go.Proofs.YtpfafhmkbcahhaaGreat
namespace Go.Proofs.YtpfafhmkbcahhaaGreat
def KV.vI (K:KV) (r:Nat):Int:=match K.A.list[r]? with | some p=>p.var | none=>-1
def KV.part (K:KV) (y r:Nat):Nat × Nat:=match K.A.list[r]? with | some p=>if p.var=(y:Int) then (p.lo,p.hi) else (r,r) | none=>(r,r)
theorem KV.vI_at {K:KV} {r:Nat} {p:PlaceV} (h:K.A.list[r]?=some p):K.vI r=p.var:=by simp [KV.vI,h]
structure Nb (K:KV) (l x y:Nat):Prop where
 ok:K.Ok
 un:K.Uni
 hl:l+2<=K.vars
 hx:K.order.getD l 0=x
 hy:K.order.getD (l+1) 0=y
theorem Nb.facts {K:KV} {l x y:Nat} (h:Nb K l x y):x<K.vars/\y<K.vars/\K.lev x=l/\K.lev y=l+1/\x≠y:=by
 have hl:=h.hl;have h1:=h.ok.ord.pm.oo l (by omega);have h2:=h.ok.ord.pm.oo (l+1) (by omega);rw [h.hx] at h1;rw [h.hy] at h2;exact ⟨h1.1,h2.1,h1.2,h2.2,by rintro rfl;omega⟩
def Deep (K:KV) (l a:Nat):Prop:=K.A.tk a=true/\l+1<K.dep a
def KV.Cross (K:KV) (x y r:Nat):Prop:=2<=r/\∃ p,K.A.list[r]?=some p/\p.taken=true/\p.var=(x:Int)/\(K.vI p.lo=(y:Int)\/K.vI p.hi=(y:Int))
theorem Nb.dep_at {K:KV} {l x y r v:Nat} {p:PlaceV} (_h:Nb K l x y) (hp:K.A.list[r]?=some p) (hv:p.var=(v:Int)):K.dep r=K.lev v:=by
 simp [KV.dep,hp,hv]
theorem Nb.deep_v {K:KV} {l x y a:Nat} (h:Nb K l x y) (ha:Deep K l a):K.vI a≠(x:Int)/\K.vI a≠(y:Int):=by
 obtain ⟨hx,hy,h1,h2,_⟩:=h.facts;obtain ⟨p,hp,hpt⟩:=ArenaV.tk_iff.1 ha.1;have hd:=ha.2;rw [KV.vI_at hp];refine ⟨fun e=>?_,fun e=>?_⟩
 ·rw [h.dep_at hp e] at hd;omega
 ·rw [h.dep_at hp e] at hd;omega
theorem Nb.kid {K:KV} {l x y c:Nat} (h:Nb K l x y) (ht:K.A.tk c=true) (hd:l<K.dep c) (hv:K.vI c≠(y:Int)):Deep K l c:=by
 obtain ⟨hx,hy,h1,h2,_⟩:=h.facts;refine ⟨ht,?_⟩
 by_cases hc:2<=c
 ·obtain ⟨p,v,hp,hpt,hpv,hvl,_,_,hdep⟩:=h.ok.wf.node_at hc ht
  rcases Nat.lt_or_ge (l+1) (K.dep c) with h5 | h5
  ·exact h5
  ·exfalso
   have e:v=y:=h.ok.ord.pm.inj hvl hy (by omega);exact hv (by rw [KV.vI_at hp,hpv,e])
 ·rw [h.ok.wf.dep_const (by omega)]
  have:=h.hl;omega
theorem KV.part_no {K:KV} {y r:Nat} (h:K.vI r≠(y:Int)):K.part y r=(r,r):=by
 unfold KV.part
 cases hp:K.A.list[r]? with
 | none=>rfl
 | some p =>
  rw [KV.vI_at hp] at h
  simp [h]
theorem KV.part_yes {K:KV} {y r:Nat} {p:PlaceV} (hp:K.A.list[r]?=some p) (h:p.var=(y:Int)):K.part y r=(p.lo,p.hi):=by
 simp [KV.part,hp,h]
theorem Nb.part {K:KV} {l x y c:Nat} (h:Nb K l x y) (ht:K.A.tk c=true) (hd:l<K.dep c):Deep K l (K.part y c).1/\Deep K l (K.part y c).2/\∀ z,K.den c z=if z y then K.den (K.part y c).2 z else K.den (K.part y c).1 z:=by
 obtain ⟨hx,hy,h1,h2,_⟩:=h.facts
 by_cases hv:K.vI c=(y:Int)
 ·obtain ⟨p,hp,hpt⟩:=ArenaV.tk_iff.1 ht
  rw [KV.vI_at hp] at hv;rw [KV.part_yes hp hv]
  have h2c:2<=c:=by
   rcases Nat.lt_or_ge c 2 with h5 | h5
   ·have:=h.ok.wf.dep_const h5
    have e:=h.dep_at hp hv;have:=(h.ok.ord.pm.lo y hy).1;omega
   ·exact h5
  have hb:=h.ok.ord.below h.ok.wf h2c hp hpt;have hc:=h.ok.wf.cl c p h2c hp hpt;have e:=h.dep_at hp hv;refine ⟨⟨hc.1,by show l+1<K.dep p.lo;omega⟩,⟨hc.2,by show l+1<K.dep p.hi;omega⟩,fun z=>?_⟩;rw [KV.den_node h.ok.wf h.ok.ord h2c hp hpt,show p.var.toNat=y by omega]
 ·have hk:=h.kid ht hd hv
  rw [KV.part_no hv];exact ⟨hk,hk,fun z=>by simp⟩
theorem Nb.deep_den {K:KV} {l x y a:Nat} (h:Nb K l x y) (ha:Deep K l a) (z:Nat->Bool) (b:Bool):K.den a (upd z x b)=K.den a z/\K.den a (upd z y b)=K.den a z:=by
 obtain ⟨hx,hy,h1,h2,_⟩:=h.facts;have hd:=ha.2;exact ⟨KV.den_upd h.ok.wf h.ok.ord ha.1 hx (by omega) z b,KV.den_upd h.ok.wf h.ok.ord ha.1 hy (by omega) z b⟩
theorem KV.Ok.hangs {K:KV} (hk:K.Ok) (hu:K.Uni) {r v:Nat} {p:PlaceV} (h2:2<=r) (hp:K.A.list[r]?=some p) (hpt:p.taken=true) (hv:p.var=(v:Int)) (hno:∀ z b,K.den r (upd z v b)=K.den r z):False:=by
 refine hk.ord.ne r p h2 hp hpt (KV.canon hk.wf hk.ord hu _ _ _ (hk.wf.cl r p h2 hp hpt).1 (hk.wf.cl r p h2 hp hpt).2 (Nat.le_refl _) fun z=>?_);have h0:=KV.den_lo hk.wf hk.ord h2 hp hpt z;have h1:=KV.den_hi hk.wf hk.ord h2 hp hpt z;rw [show p.var.toNat=v by omega] at h0 h1;rw [<- h0,<- h1,hno,hno]
def Low (K0:KV) (l x:Nat) (K:KV) (r:Nat):Prop:=K.A.tk r=true/\(Deep K0 l r\/(2<=r/\∃ p,K.A.list[r]?=some p/\p.taken=true/\p.var=(x:Int)/\Deep K0 l p.lo/\Deep K0 l p.hi/\p.lo≠p.hi))
structure Mid (K0:KV) (l x y:Nat) (R:List Nat) (K:KV) (D:Nat->(Nat->Bool)->Bool):Prop where
 vr:K.vars=K0.vars
 od:K.order=K0.order
 lv:K.level=K0.level
 hd:∀ r,K.hold r=K0.hold r
 tr:K.trail=K0.trail
 pl:K.A.places=K0.A.places
 rc:∀ r,r∈R->K0.Cross x y r
 rn:R.Nodup
 old:∀ (r:Nat) (p:PlaceV),K0.A.list[r]?=some p->p.taken=true->(¬ K0.Cross x y r\/r∈R)->K.A.list[r]?=some p
 cr:∀ r,K0.Cross x y r->r∉R->∃ p,K.A.list[r]?=some p/\p.taken=true/\p.var=(y:Int)/\Low K0 l x K p.lo/\Low K0 l x K p.hi/\p.lo≠p.hi
 nw:∀ (r:Nat) (p:PlaceV),K.A.list[r]?=some p->p.taken=true->K0.A.tk r=false->2<=r/\p.var=(x:Int)/\Deep K0 l p.lo/\Deep K0 l p.hi/\p.lo≠p.hi
 sem:∀ (r:Nat) (p:PlaceV),2<=r->K.A.list[r]?=some p->p.taken=true->∀ z,D r z=if z p.var.toNat then D p.hi z else D p.lo z
 dold:∀ r,K0.A.tk r=true->∀ z,D r z=K0.den r z
theorem Nb.cross_tk {K:KV} {x y r:Nat} (h:K.Cross x y r):K.A.tk r=true:=by
 obtain ⟨_,p,hp,hpt,_⟩:=h;exact ArenaV.tk_iff.2 ⟨p,hp,hpt⟩
theorem Mid.start {K:KV} {l x y:Nat} {R:List Nat} (h:Nb K l x y) (hR:∀ r,r∈R↔K.Cross x y r) (hn:R.Nodup):Mid K l x y R K K.den:=by
 refine ⟨rfl,rfl,rfl,fun _=>rfl,rfl,rfl,fun r hr=>(hR r).1 hr,hn,fun r p hp _ _=>hp,fun r hc hr=>absurd ((hR r).2 hc) hr,fun r p hp hpt ht=>?_,fun r p h2 hp hpt z=>KV.den_node h.ok.wf h.ok.ord h2 hp hpt z,fun _ _ _=>rfl⟩
 rw [ArenaV.tk_iff.2 ⟨p,hp,hpt⟩] at ht;cases ht
theorem Mid.tk {K0 K:KV} {l x y:Nat} {R:List Nat} {D:Nat->(Nat->Bool)->Bool} (h:Mid K0 l x y R K D) {r:Nat} (ht:K0.A.tk r=true):K.A.tk r=true:=by
 obtain ⟨p,hp,hpt⟩:=ArenaV.tk_iff.1 ht
 by_cases hc:K0.Cross x y r/\r∉R
 ·obtain ⟨q,hq,hqt,_⟩:=h.cr r hc.1 hc.2
  exact ArenaV.tk_iff.2 ⟨q,hq,hqt⟩
 ·refine ArenaV.tk_iff.2 ⟨p,h.old r p hp hpt ?_,hpt⟩
  by_cases h1:K0.Cross x y r
  ·exact .inr (Classical.not_not.1 fun h2=>hc ⟨h1,h2⟩)
  ·exact .inl h1
theorem Mid.deep_at {K0 K:KV} {l x y:Nat} {R:List Nat} {D:Nat->(Nat->Bool)->Bool} (h:Mid K0 l x y R K D) (nb:Nb K0 l x y) {a:Nat} {p:PlaceV} (ha:Deep K0 l a) (hp:K0.A.list[a]?=some p) (hpt:p.taken=true):K.A.list[a]?=some p:=by
 refine h.old a p hp hpt (.inl fun hc=>?_);obtain ⟨_,q,hq,_,hv,_⟩:=hc;have:=(nb.deep_v ha).1;rw [KV.vI_at hq] at this;exact this hv
theorem Low.mono {K0 K K':KV} {l x r:Nat} (h:Low K0 l x K r) (hs:∀ p,K.A.list[r]?=some p->p.taken=true->K'.A.list[r]?=some p):Low K0 l x K' r:=by
 obtain ⟨p,hp,hpt⟩:=ArenaV.tk_iff.1 h.1;refine ⟨ArenaV.tk_iff.2 ⟨p,hs p hp hpt,hpt⟩,h.2.imp id fun ⟨h2,q,hq,hqt,hr⟩=>⟨h2,q,hs q hq hqt,hqt,hr⟩⟩
def GetR (K:KV) (X:List Nat) (x a b r:Nat) (K':KV):Prop :=
 (a=b/\r=a/\K'=K)\/(a≠b/\(2<=r/\∃ p,K.A.list[r]?=some p/\p.taken=true/\p.var=(x:Int)/\p.lo=a/\p.hi=b)/\K'=K)\/(a≠b/\K.Took (x:Int) a b r K'/\∀ (s:Nat) (p:PlaceV),s∉X->2<=s->K.A.list[s]?=some p->p.taken=true->¬ (p.var=(x:Int)/\p.lo=a/\p.hi=b))
theorem Mid.get {K0 K K':KV} {l x y a b r:Nat} {R P X:List Nat} {D:Nat->(Nat->Bool)->Bool} (h:Mid K0 l x y R K D) (_nb:Nb K0 l x y) (hw:K.Wf P) (ha:Deep K0 l a) (hb:Deep K0 l b) (G:GetR K X x a b r K') :
  ∃ D',Mid K0 l x y R K' D'/\Low K0 l x K' r/\(∀ z,D' r z=if z x then K0.den b z else K0.den a z)/\(∀ s,K.A.tk s=true->∀ z,D' s z=D s z)/\∀ (s:Nat) (p:PlaceV),K.A.list[s]?=some p->p.taken=true->K'.A.list[s]?=some p:=by
 have hda:=fun z=>h.dold a ha.1 z
 have hdb:=fun z=>h.dold b hb.1 z
 rcases G with ⟨rfl,rfl,rfl⟩ | ⟨hne,⟨h2,p,hp,hpt,hv,rfl,rfl⟩,rfl⟩ | ⟨hne,T,_⟩
 ·exact ⟨D,h,⟨h.tk ha.1,.inl ha⟩,fun z=>by rw [hda];simp,fun _ _ _=>rfl,fun _ _ hp _=>hp⟩
 ·refine ⟨D,h,⟨ArenaV.tk_iff.2 ⟨p,hp,hpt⟩,.inr ⟨h2,p,hp,hpt,hv,ha,hb,hne⟩⟩,fun z=>?_,fun _ _ _=>rfl,fun _ _ hp _=>hp⟩
  rw [h.sem r p h2 hp hpt z,hda,hdb,show p.var.toNat=x by omega]
 ·have hno:=T.fr.no
  have ta:=h.tk ha.1;have tb:=h.tk hb.1
  have nr:∀ s,K.A.tk s=true->s≠r:=fun s hs e=>by rw [e,hno] at hs;cases hs
  have keep:∀ (s:Nat) (p:PlaceV),K.A.list[s]?=some p->p.taken=true->K'.A.list[s]?=some p:=fun s p hp hpt=>by
   rw [T.fr.ot s (nr s (ArenaV.tk_iff.2 ⟨p,hp,hpt⟩))];exact hp
  have h0r:K0.A.tk r=false:=by
   cases e:K0.A.tk r with
   | false=>rfl
   | true=>rw [h.tk e] at hno;cases hno
  refine ⟨fun s=>if s=r then fun z=>if z x then K0.den b z else K0.den a z else D s,⟨by rw [T.vr,h.vr],by rw [T.od,h.od],by rw [T.lv,h.lv],fun s=>?_,by rw [T.tr,h.tr],by rw [T.fr.pl,h.pl],h.rc,h.rn,fun s p hp hpt hc=>keep s p (h.old s p hp hpt hc) hpt,fun s hc hs=>?_,fun s p hp hpt ht=>?_,fun s p h2 hp hpt z=>?_,fun s hs z=>?_⟩,⟨ArenaV.tk_iff.2 ⟨_,T.fr.at_,rfl⟩,.inr ⟨T.fr.two,_,T.fr.at_,rfl,rfl,ha,hb,hne⟩⟩,fun z=>by simp,fun s hs z=>?_,keep⟩
  ·rw [T.hd,<- h.hd]
   split
   ·rename_i e
    subst e
    rcases Nat.eq_zero_or_pos (K.hold s) with h0 | h0
    ·exact h0.symm
    ·rw [(hw.ht s h0).2] at hno;cases hno
   ·rfl
  ·obtain ⟨p,hp,hpt,hv,hlo,hhi,hn⟩:=h.cr s hc hs
   exact ⟨p,keep s p hp hpt,hpt,hv,hlo.mono (keep _),hhi.mono (keep _),hn⟩
  ·by_cases e:s=r
   ·subst e
    rw [T.fr.at_] at hp;cases hp
    exact ⟨T.fr.two,rfl,ha,hb,hne⟩
   ·rw [T.fr.ot s e] at hp
    exact h.nw s p hp hpt ht
  ·by_cases e:s=r
   ·subst e
    rw [T.fr.at_] at hp;cases hp
    simp only [if_true,Int.toNat_natCast]
    rw [if_neg (nr a ta),if_neg (nr b tb),hda,hdb]
   ·rw [T.fr.ot s e] at hp
    have hc:=hw.cl s p h2 hp hpt
    simp only [if_neg e]
    rw [if_neg (nr _ hc.1),if_neg (nr _ hc.2)];exact h.sem s p h2 hp hpt z
  ·have e:s≠r:=fun e=>by rw [e,h0r] at hs;cases hs
   simp only [if_neg e]
   exact h.dold s hs z
  ·simp only [if_neg (nr s hs)]
theorem setNode_at {A:ArenaV} {c:Nat} {q:PlaceV} {v:Int} {lo hi:Nat} (hq:A.list[c]?=some q) (s:Nat):(A.setNode c v lo hi).list[s]?=if s=c then some { q with var:=v,lo:=lo,hi:=hi } else A.list[s]?:=by
 have hlt:=(List.getElem?_eq_some_iff.1 hq).1
 simp only [ArenaV.setNode,hq]
 by_cases e:s=c
 ·subst e;rw [List.getElem?_set_self hlt,if_pos rfl]
 ·rw [List.getElem?_set_ne (Ne.symm e),if_neg e]
def KV.turnN (K:KV) (c y lo hi:Nat):KV:={ K with A:=K.A.setNode c (y:Int) lo hi }
theorem Low.ne_cross {K0 K:KV} {l x y:Nat} {R:List Nat} {D:Nat->(Nat->Bool)->Bool} (h:Mid K0 l x y R K D) (nb:Nb K0 l x y) {c r:Nat} (hc:K0.Cross x y c) (hr:Low K0 l x K r) (hin:c∈R\/K.vI c=(y:Int)):r≠c:=by
 rintro rfl;obtain ⟨_,_,_,_,hxy⟩:=nb.facts;obtain ⟨h2,p,hp,hpt,hv,hkid⟩:=hc
 rcases hr.2 with hd | ⟨_,q,hq,hqt,hqv,hlo,hhi,_⟩
 ·have:=(nb.deep_v hd).1
  rw [KV.vI_at hp] at this;exact this hv
 ·rcases hin with hin | hin
  ·have:=h.old r p hp hpt (.inr hin)
   rw [hq] at this;cases this
   rcases hkid with e | e
   ·exact (nb.deep_v hlo).2 e
   ·exact (nb.deep_v hhi).2 e
  ·rw [KV.vI_at hq,hqv] at hin
   exact hxy (by omega)
theorem Mid.low_den {K0 K:KV} {l x y:Nat} {R:List Nat} {D:Nat->(Nat->Bool)->Bool} (h:Mid K0 l x y R K D) (nb:Nb K0 l x y) {r:Nat} (hr:Low K0 l x K r) (z:Nat->Bool) (b:Bool):D r (upd z y b)=D r z:=by
 obtain ⟨_,_,_,_,hxy⟩:=nb.facts
 rcases hr.2 with hd | ⟨h2,q,hq,hqt,hqv,hlo,hhi,_⟩
 ·rw [h.dold r hd.1,h.dold r hd.1];exact (nb.deep_den hd z b).2
 ·rw [h.sem r q h2 hq hqt,h.sem r q h2 hq hqt,show q.var.toNat=x by omega,h.dold _ hlo.1,h.dold _ hhi.1,h.dold _ hlo.1,h.dold _ hhi.1,(nb.deep_den hlo z b).2,(nb.deep_den hhi z b).2,upd_ne z b hxy]
structure Four (K0:KV) (l x y c:Nat) (p:PlaceV) (a00 a01 a10 a11:Nat):Prop where
 at_:K0.A.list[c]?=some p
 tk:p.taken=true
 e0:K0.part y p.lo=(a00,a01)
 e1:K0.part y p.hi=(a10,a11)
 d00:Deep K0 l a00
 d01:Deep K0 l a01
 d10:Deep K0 l a10
 d11:Deep K0 l a11
 den:∀ z,K0.den c z=if z y then (if z x then K0.den a11 z else K0.den a01 z) else (if z x then K0.den a10 z else K0.den a00 z)
theorem Nb.four {K:KV} {l x y c:Nat} (h:Nb K l x y) (hc:K.Cross x y c):∃ p a00 a01 a10 a11,Four K l x y c p a00 a01 a10 a11:=by
 obtain ⟨_,_,h1,_,_⟩:=h.facts;obtain ⟨h2,p,hp,hpt,hv,_⟩:=hc;have hb:=h.ok.ord.below h.ok.wf h2 hp hpt;have hcl:=h.ok.wf.cl c p h2 hp hpt;have e:=h.dep_at hp hv;obtain ⟨f1,f2,f3⟩:=h.part hcl.1 (by omega);obtain ⟨g1,g2,g3⟩:=h.part hcl.2 (by omega);refine ⟨p,(K.part y p.lo).1,(K.part y p.lo).2,(K.part y p.hi).1,(K.part y p.hi).2,hp,hpt,rfl,rfl,f1,f2,g1,g2,fun z=>?_⟩;rw [KV.den_node h.ok.wf h.ok.ord h2 hp hpt,show p.var.toNat=x by omega,f3,g3]
 cases z x <;> cases z y <;> rfl
theorem Nb.cross_y {K:KV} {l x y c:Nat} (h:Nb K l x y) (hc:K.Cross x y c) (hno:∀ z b,K.den c (upd z y b)=K.den c z):False:=by
 obtain ⟨_,_,_,_,hxy⟩:=h.facts;obtain ⟨h2,p,hp,hpt,hv,hkid⟩:=hc;have hcl:=h.ok.wf.cl c p h2 hp hpt
 have e:p.var.toNat=x:=by omega
 have key:∀ (k:Nat) (bx:Bool),(∀ z,K.den c (upd z x bx)=K.den k z)->K.A.tk k=true->K.vI k=(y:Int)->False:=fun k bx hk htk hvk=>by
  obtain ⟨q,hq,hqt⟩:=ArenaV.tk_iff.1 htk;rw [KV.vI_at hq] at hvk
  have h2k:2<=k:=by
   match k with
   | 0=>rw [h.ok.wf.ok.c0] at hq;cases hq;simp at hvk
   | 1=>rw [h.ok.wf.ok.c1] at hq;cases hq;simp at hvk
   | k+2=>omega
  refine h.ok.hangs h.un h2k hq hqt hvk fun z b=>?_
  rw [<- hk,<- hk]
  have ec:upd (upd z y b) x bx=upd (upd z x bx) y b:=by
   funext u
   simp only [upd]
   by_cases e1:u=x
   ·by_cases e2:u=y
    ·exact absurd (e1.symm.trans e2) hxy
    ·simp [e1,hxy]
   ·simp [e1]
  rw [ec,hno]
 rcases hkid with hk | hk
 ·exact key p.lo false (fun z=>by have:=KV.den_lo h.ok.wf h.ok.ord h2 hp hpt z;rw [e] at this;exact this) hcl.1 hk
 ·exact key p.hi true (fun z=>by have:=KV.den_hi h.ok.wf h.ok.ord h2 hp hpt z;rw [e] at this;exact this) hcl.2 hk
theorem Mid.turn {K0 K:KV} {l x y c lo hi a00 a01 a10 a11:Nat} {p:PlaceV} {R:List Nat} {D:Nat->(Nat->Bool)->Bool} (h:Mid K0 l x y (c::R) K D) (nb:Nb K0 l x y) (F:Four K0 l x y c p a00 a01 a10 a11)
  (hlo:Low K0 l x K lo) (hhi:Low K0 l x K hi) (dlo:∀ z,D lo z=if z x then K0.den a10 z else K0.den a00 z) (dhi:∀ z,D hi z=if z x then K0.den a11 z else K0.den a01 z) :
  Mid K0 l x y R (K.turnN c y lo hi) D/\lo≠hi/\K.A.list[c]?=some p:=by
 have hc:=h.rc c (by simp);have hcR:=(List.nodup_cons.1 h.rn).1;have hq:K.A.list[c]?=some p:=h.old c p F.at_ F.tk (.inr (by simp))
 have at_:=fun s=>setNode_at (A:=K.A) (v:=(y:Int)) (lo:=lo) (hi:=hi) hq s
 have h2:2<=c:=hc.1;have t0:K0.A.tk c=true:=Nb.cross_tk hc
 have hne:lo≠hi:=by
  rintro rfl
  refine nb.cross_y hc fun z b=>?_
  have hz:∀ z,K0.den c z=D lo z:=fun z=>by
   rw [F.den];cases e:z y
   ·rw [dlo];rfl
   ·rw [dhi];rfl
  rw [hz,hz,h.low_den nb hlo]
 have nl:∀ {s:Nat},Low K0 l x K s->s≠c:=fun hs=>Low.ne_cross h nb hc hs (.inl (by simp))
 have mono:∀ {s:Nat},Low K0 l x K s->Low K0 l x (K.turnN c y lo hi) s:=fun {s} hs=>hs.mono fun q hq' _=>by
  show (K.A.setNode c (y:Int) lo hi).list[s]?=some q
  rw [at_,if_neg (nl hs)];exact hq'
 refine ⟨⟨h.vr,h.od,h.lv,h.hd,h.tr,?_,fun r hr=>h.rc r (List.mem_cons_of_mem _ hr),(List.nodup_cons.1 h.rn).2,fun r q hr hrt hcase=>?_,fun r hcr hr=>?_,fun r q hr hrt ht=>?_,fun r q h2r hr hrt z=>?_,h.dold⟩,hne,hq⟩
 ·show (K.A.setNode c (y:Int) lo hi).places=_
  rw [<- h.pl];simp only [ArenaV.setNode]
 ·show (K.A.setNode c (y:Int) lo hi).list[r]?=some q
  have hrc:r≠c:=by
   rintro rfl
   rcases hcase with hh | hh
   ·exact hh hc
   ·exact hcR hh
  rw [at_,if_neg hrc];exact h.old r q hr hrt (hcase.imp id (List.mem_cons_of_mem _))
 ·by_cases hrc:r=c
  ·subst hrc
   exact ⟨{ p with var:=(y:Int),lo:=lo,hi:=hi },by show (K.A.setNode r (y:Int) lo hi).list[r]?=_;rw [at_,if_pos rfl],F.tk,rfl,mono hlo,mono hhi,hne⟩
  ·obtain ⟨q,hr',hrt,hv,f1,f2,f3⟩:=h.cr r hcr (by simp [hrc,hr])
   exact ⟨q,by show (K.A.setNode c (y:Int) lo hi).list[r]?=_;rw [at_,if_neg hrc];exact hr',hrt,hv,mono f1,mono f2,f3⟩
 ·have hr':(K.A.setNode c (y:Int) lo hi).list[r]?=some q:=hr
  have hrc:r≠c:=by rintro rfl;rw [t0] at ht;cases ht
  rw [at_,if_neg hrc] at hr';exact h.nw r q hr' hrt ht
 ·have hr':(K.A.setNode c (y:Int) lo hi).list[r]?=some q:=hr
  by_cases hrc:r=c
  ·subst hrc
   rw [at_,if_pos rfl] at hr';cases hr'
   simp only [Int.toNat_natCast]
   rw [h.dold r t0,F.den,dlo,dhi]
  ·rw [at_,if_neg hrc] at hr'
   exact h.sem r q h2r hr' hrt z
end Go.Proofs.YtpfafhmkbcahhaaGreat
