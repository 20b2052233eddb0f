import Derived.Test.YtlkgkojidclncaaGreatTB12
import Derived.Test.YtlkgkojidclncaaGreatTB13
import Derived.Test.YtlkgkojidclncaaGreatTB2
import Derived.Test.YtlkgkojidclncaaGreatTB7
import Derived.Test.YtlkgkojidclncaaGreatTB11
import Derived.BigRegion
import Derived.RangeFuncBox
import Derived.RangeFuncLeaves
import Derived.Shelf.Abstract
import Derived.WalkKit
import Derived.OwnWalkIn
import Derived.TacticsInMore
import Derived.LoopNIn
import Derived.LoopIn
import Derived.Maps.AppendAt
import Derived.Sort.MapsRangeIn
import Derived.RangeFuncNested
import Derived.RangeFuncBound
import Derived.Deep.QuietTactic
set_option maxRecDepth 100000
set_option maxHeartbeats 2000000
namespace Go.Proofs.YtlkgkojidclncaaGreat
open Go.RowKit Go.Maps Go.ChangeMaps Go.WideShapes
structure Same (K:KV) (M:MV):Prop where
 od:M.order=K.order
 n:M.n=K.vars
end Go.Proofs.YtlkgkojidclncaaGreat
namespace Go.Proofs.YtlkgkojidclncaaGreat
open Go.RowKit Go.Maps Go.ChangeMaps Go.WideShapes Go.Shelf
attribute [local go_sem] Oper.semAt_some
structure Came (D:DM) (left:Lit->Bool) (ps:List (Lit × Int)):Prop where
 nd:(ps.map (·.1)).Nodup
 at_:∀ p,p∈ps->∀ z,D.atKey p.1 z=.lit (.int .u32 p.2)
 mem:∀ k,k∈ps.map (·.1)↔(Maps.has D k=true/\left k=false)
theorem Came.start (D:DM):Came D (Maps.has D) []:=⟨by simp,by simp,fun k=>by cases Maps.has D k <;> simp⟩
theorem Came.step {D:DM} {left:Lit->Bool} {ps:List (Lit × Int)} (h:Came D left ps) {k:Lit} {c:Int} (hk:WideAt.IsKeyLit k) (hl:left k=true) (hat:∀ z,D.atKey k z=.lit (.int .u32 c)):Came D (fun z=>left z&&!z.sameKey k) (ps++[(k,c)]):=by
 have hh:Maps.has D k=true:=has_true_of_atKey hat;refine ⟨?_,fun p hp=>?_,fun z=>?_⟩
 ·rw [List.map_append,List.nodup_append]
  refine ⟨h.nd,by simp,fun a ha b hb=>?_⟩
  simp at hb;subst hb
  rintro rfl;have:=((h.mem a).1 ha).2
  rw [hl] at this;cases this
 ·rcases List.mem_append.1 hp with hp | hp
  ·exact h.at_ p hp
  ·simp at hp;subst hp;exact hat
 ·rw [List.map_append,List.mem_append,h.mem]
  by_cases e:z=k
  ·subst e;simp [hh,WideAt.sameKey_self hk]
  ·simp [e,sameKey_ne e]
def AllVals (D:DM) (l:List Int):Prop:=∃ ps:List (Lit × Int),(ps.map (·.1)).Nodup/\(∀ p,p∈ps->∀ z,D.atKey p.1 z=.lit (.int .u32 p.2))/\(∀ k,k∈ps.map (·.1)↔Maps.has D k=true)/\l=ps.map (·.2)
theorem Came.all {D:DM} {left:Lit->Bool} {ps:List (Lit × Int)} (h:Came D left ps) (hl:∀ k,left k=false):AllVals D (ps.map (·.2)):=⟨ps,h.nd,h.at_,fun k=>by rw [h.mem,hl];simp,rfl⟩
theorem key_isKey {key:Value} {kl:Lit} (h:keyOf Tryz.prog 95 key=some kl):WideAt.IsKeyLit kl:=by
 unfold keyOf at h;rw [Tryz.underlying95] at h
 simp at h
 obtain ⟨_,ls,_,rfl⟩:=h
 trivial
theorem values1_in (n:Nat) (hn:1<=n) (l Bm b nn:Nat) (D:DM) (J Jx:List Int->World->Prop)
  (hY:∀ pre x W,J pre W->pre.length<Maps.size D->YieldAt Fence.wide (n-1) Tryz.prog l #[.int .u32 x] W fun e W' =>
   (e=.returned (.bool true)/\J (pre++[x]) W'/\KeepsWalks W W')\/(e=.returned (.bool false)/\Jx (pre++[x]) W'))
  (W:World) (hJ:AbidesFrom W.heap.size J) (hm:W.cell? ⟨Bm,0,none⟩=some (.map (some b))) (hown:W.ownsMap Tryz.prog 95 (plainElem Tryz.prog 62) b nn D) (h0:J [] W) :
  CallsIn Fence.wide n Tryz.prog 256 #[.func (.yield l) #[] #[],.pointer (some ⟨Bm,0,none⟩)] W fun e W'=>(∃ v,e=.returned v) /\
   ((∃ xs,AllVals D xs/\J xs W')\/(∃ pre,True/\Jx pre W')):=by
 refine callsIn_of_wp Tryz.func256 rfl trivial ?_ rfl
 simp only [Tryz.ntmps256,List.size_toArray,List.length_cons,List.length_nil,Nat.reduceAdd,Nat.reduceSub,Array.replicate_succ,Array.replicate_zero,List.push_toArray,List.append_toArray,List.nil_append,List.cons_append]
 gi_wp2_with (first
  | (gi_at_range;refine wpListIn_range_own _ rfl _ 208 rfl 95 62 nodeKeyed Tryz.underlying208 _ b nn _ rfl hown ?_;intro w0 hrg0 hg0 hs0)
  | gi_in)
 go_frame
 gi_loopw [4] (fun _ wr=>∃ (left:Lit->Bool) (cnt:Nat) (ps:List (Lit × Int)),wr.ranges Tryz.prog 95 (plainElem Tryz.prog 62) b W.heap.size nn D left cnt/\ps.length+cnt<=Maps.size D/\Came D left ps/\J (ps.map (·.2)) wr)
  (fun _ wr=>wr.rangeLeft b W.heap.size)
 case atStart =>
  exact ⟨_,_,[],hrg0,by simp,Came.start D,hJ [] W w0 none h0 hg0 (fun r e=>by cases e)⟩
 case round =>
  obtain ⟨left,cnt,ps,hrg,hcs,hC,hJs⟩:=hrel
  gi_wp2_with (first
   | (gi_at_next;refine wpListIn_next_ranges _ rfl _ rfl 95 nodeKeyed (plainElem Tryz.prog 62) id (Value.int .u32) (fun key kl hk=>⟨key,rfl⟩) (fun v y hv=>by obtain ⟨c,rfl,_⟩:=plainElem_int_inv Tryz.underlying62 hv;exact ⟨c,rfl⟩) b W.heap.size nn _ _ _ rfl hrg ?_ ?_)
   | gi_in)
  ·intro hc0 hl0
   gi_wp2
   go_end0;exact ⟨⟨_,rfl⟩,.inl ⟨_,hC.all hl0,hJs⟩⟩
  ·intro x c kl yd yp w2 cnt2 hkey hlk hv hat hrg2 hlt hg2 hs2 hen
   obtain ⟨c',ec,ez,_⟩:=plainElem_int_inv Tryz.underlying62 hv
   obtain rfl:c=c':=by simpa using ec
   obtain rfl:yd=.lit (.int .u32 c):=(Prod.mk.inj ez).1;have hJ2:J (ps.map (·.2)) w2:=hJ _ wr w2 (some W.heap.size) hJs hg2 (fun r e=>by cases e;exact ⟨Nat.le_refl _,hrg.iter_walk⟩);obtain ⟨fn,tmps,assign,body,hy,hR⟩:=hY (ps.map (·.2)) c w2 hJ2 (by simp;omega);clear hs2
   gi_wp2
   refine hR.mono ?_;have hC2:=hC.step (key_isKey hkey) hlk hat;rintro e W3 (⟨rfl,hJ3,hk3⟩ | ⟨rfl,hJx3⟩)
   ·gi_wp2
    have hrg3:=hrg2.of_walks hk3
    go_roundw
    case rel=>exact ⟨_,cnt2,ps++[(kl,c)],hrg3,by simp;omega,hC2,by simpa using hJ3⟩
    case measure=>rw [hrg3.left_eq,hrg.left_eq];exact hlt
   ·gi_wp2
    refine bodyPost_ret (results_none rfl _ _ _) rfl ?_;exact ⟨⟨_,rfl⟩,.inr ⟨_,trivial,hJx3⟩⟩
theorem values_in (n:Nat) (mb:Option Nat) (w:World) :
  CallsIn Fence.wide n Tryz.prog 248 #[.map mb] w fun e w'=>e=.returned (.func (.func 256) #[] #[.pointer (some ⟨w.heap.size,0,none⟩)])/\w'=w.alloc (.cells #[.map mb] 208):=by
 refine callsIn_of_wp Tryz.func248 rfl trivial ?_ rfl
 simp only [Tryz.ntmps248,List.size_toArray,List.length_cons,List.length_nil,Nat.reduceAdd,Nat.reduceSub,Array.replicate_succ,Array.replicate_zero,List.push_toArray,List.append_toArray,List.nil_append,List.cons_append]
 gi_wp2
 go_ret;exact ⟨rfl,rfl⟩
theorem values_stops (n:Nat) (hn:1<=n) (Bm b nn:Nat) (D:DM) (w:World) (hBm:Bm<w.heap.size) (hm:w.cell? ⟨Bm,0,none⟩=some (.map (some b))) (hown:w.ownsMap Tryz.prog 95 (plainElem Tryz.prog 62) b nn D) :
  SeqStopsK Fence.wide n Tryz.prog 256 #[.pointer (some ⟨Bm,0,none⟩)] (fun x:Int=>#[Value.int .u32 x]) KeepsWalks (AllVals D) (fun _=>True) (Maps.size D) w:=fun l J Jx W hW hJ _ hY h0=>by
 have hown':W.ownsMap Tryz.prog 95 (plainElem Tryz.prog 62) b nn D:=own_keep hown (hW.block b hown.lt);exact values1_in n hn l Bm b nn D J Jx hY W hJ ((hW.cell (p:=⟨Bm,0,none⟩) hBm).trans hm) hown' h0
attribute [local go_sem] Oper.semAt_some
theorem Tryz.infoRefE:(Tryz.prog.info? 62).map (fun i=>(i.zero,i.size,i.bytes))=some (some (.int .u32 0),1,4):=by kernel_rfl
structure GatherQ (D:DM) (n0:Nat) (w:World) (e:Ending) (w':World):Prop where
 ex:∃ (v:Value) (l:List Int),e=.returned v/\AllVals D l/\w'.ownsRow n0 62 1 v l.length (l.map (Value.int .u32))/\Below w.heap.size w w'
theorem appendSeq_in (n:Nat) (hn:3<=n) (Bm b nn:Nat) (D:DM) (w:World) (hBm:Bm<w.heap.size) (hm:w.cell? ⟨Bm,0,none⟩=some (.map (some b))) (hown:w.ownsMap Tryz.prog 95 (plainElem Tryz.prog 62) b nn D) (hsz:Maps.size D<=1048576) :
  CallsIn Fence.wide n Tryz.prog 257 #[.slice none 0 0,.func (.func 256) #[] #[.pointer (some ⟨Bm,0,none⟩)]] w fun e w'=>GatherQ D w.heap.size w e w':=by
 have h1:1<=n:=by omega
 obtain ⟨i0,hi,hz0,hz1,hz2⟩:=info_parts Tryz.infoRefE;refine callsIn_of_wp_marks Tryz.func257 rfl trivial ?_ rfl
 simp only [Tryz.ntmps257,List.size_toArray,List.length_cons,List.length_nil,Nat.reduceAdd,Nat.reduceSub,Array.replicate_succ,Array.replicate_zero,List.push_toArray,List.append_toArray,List.nil_append,List.cons_append]
 gi_wp2
 have bO:=Boxed.new w 39 (.slice none 0 0);have hB0:Below w.heap.size w (w.alloc (.cells #[.slice none 0 0] 39)):=(Below.refl _ w).alloc (Nat.le_refl _) _;have hm1:(w.alloc (.cells #[.slice none 0 0] 39)).cell? ⟨Bm,0,none⟩=some (.map (some b)):=(hB0.cell (p:=⟨Bm,0,none⟩) hBm).trans hm;have hown1:(w.alloc (.cells #[.slice none 0 0] 39)).ownsMap Tryz.prog 95 (plainElem Tryz.prog 62) b nn D:=own_keep hown (hB0.block b hown.lt)
 refine wpIn_rangeFunc_ownG rfl h1 (gf:=256) (lb:=#[.pointer (some ⟨Bm,0,none⟩)]) rfl trivial (enters_of Tryz.func256 (by kernel_rfl) rfl)
  (values_stops (n-1) (by omega) Bm b nn D _ (by simp;omega) hm1 hown1) walksK_t walksK_b (Below.refl _ _) (fun _=>rfl)
  (fun pre W=>(∃ v,Boxed W w.heap.size 39 v/\W.ownsRow w.heap.size 62 1 v pre.length (pre.map (Value.int .u32))/\True)/\Below w.heap.size w W)
  (fun _ _ _=>False)
  (OwnFrom.and (Own.from (holdsRow_own w.heap.size w.heap.size 39 62 1 (fun pre:List Int=>pre.length) (fun pre=>pre.map (Value.int .u32)) (fun _ _=>True)) _) (ownFrom_below (Nat.le_refl _) (by simp)))
  (fun _ _ _ _ _ hs _ _=>hs)
  ⟨⟨_,bO,World.ownsRow_nil _ _ _ _,trivial⟩,hB0⟩
  (fun x=>{ tmps:=#[.slice none 0 0,.func (.func 256) #[] #[.pointer (some ⟨Bm,0,none⟩)],.pointer (some ⟨w.heap.size,0,none⟩),undef,.slice none 0 0,.int .u32 x,.func (.func 256) #[] #[.pointer (some ⟨Bm,0,none⟩)],.int .u32 x,undef,undef,undef,undef,undef],defers:=[] }) ?assign ?body ?done ?stop
 case assign =>
  intro l x W K hK
  gi_wp2
  exact hK
 case body =>
  rintro l pre x W ⟨⟨v,hv,hrow,_⟩,hB⟩ hlt;have hc:=hv.cell
  gi_wp2_with (gi_at_builtin;refine wpListIn_append_own _ rfl _ _ 39 rfl w.heap.size 62 i0 (.int .u32 0) 1 4 Tryz.underlying39 hi hz0 hz1 hz2 rfl (by decide) _ _ _ rfl (hrow.alloc _) ⟨W.heap.size,0,none⟩ 1 1 [.int .u32 x] rfl rfl (cell_one_new _ _ _) (by simp [Value.oneCell']) (by unfold maxLen;omega) (by omega) (by have:=hB.size;simp;omega) ?_;intro v' w1 hown' hgrow _;obtain ⟨g',cap',rfl⟩:=ownsRow_succ hown';obtain ⟨hv1,hv2,hr2,hk2,hb2⟩:=hv.appended (by decide) hrow hB.size (Nat.le_refl _) hown' hgrow;have hc1:=hv1.cell;have hf1:=hv1.frozen)
  exact ⟨hk2.from _,hk2.walks,⟨_,hv2,by simpa using hr2,trivial⟩,hB.trans hb2⟩
 case done =>
  rintro Dd ys W hD hys ⟨⟨v,hv,hrow,_⟩,hB⟩ hK;have hc:=hv.cell
  gi_wp2
  refine ⟨by simp,.inl ⟨_,_,rfl,run_takeDeferred hK,?_⟩⟩;exact ⟨_,results_tmp rfl _ _ _,v,ys,rfl,hys,ownsRow_putObj hrow _ hK rfl,hB.trans (belowK_b (w:=w) (Nat.le_refl _) W Dd _ _ (by simp at hD;omega) hK rfl rfl)⟩
 case stop =>
  rintro Dd c pre W _ _ h _;exact h.elim
theorem collect_in (n:Nat) (hn:4<=n) (Bm b nn:Nat) (D:DM) (w:World) (hBm:Bm<w.heap.size) (hm:w.cell? ⟨Bm,0,none⟩=some (.map (some b))) (hown:w.ownsMap Tryz.prog 95 (plainElem Tryz.prog 62) b nn D) (hsz:Maps.size D<=1048576) :
  CallsIn Fence.wide n Tryz.prog 254 #[.func (.func 256) #[] #[.pointer (some ⟨Bm,0,none⟩)]] w fun e w'=>GatherQ D w.heap.size w e w':=by
 refine callsIn_of_wp Tryz.func254 rfl trivial ?_ rfl
 simp only [Tryz.ntmps254,List.size_toArray,List.length_cons,List.length_nil,Nat.reduceAdd,Nat.reduceSub,Array.replicate_succ,Array.replicate_zero,List.push_toArray,List.append_toArray,List.nil_append,List.cons_append]
 gi_wp2
 refine ⟨trivial,fun _=>by omega,?_⟩;refine (appendSeq_in (n-1) (by omega) Bm b nn D _ hBm hm hown hsz).mono ?_;rintro e w' hE;obtain ⟨v,l,rfl,hl,hr,hB⟩:=hE.ex;clear hE
 gi_wp2
 go_ret;exact ⟨v,l,rfl,hl,hr,hB⟩
end Go.Proofs.YtlkgkojidclncaaGreat
namespace Go.Proofs.YtlkgkojidclncaaGreat
open Go.RowKit Go.Maps Go.ChangeMaps Go.WideShapes
theorem len64_zero (w:World):Calls Tryz.prog 270 #[.int .u64 0] w fun e w'=>(∃ c:Int,e=.returned (.int .i64 c))/\w'=w:=by
 go_enter Tryz.func270,Tryz.ntmps270
 go_wp2_with fail;go_ret;exact ⟨⟨_,rfl⟩,rfl⟩
theorem len_zero (w:World):Calls Tryz.prog 259 #[.int .u64 0] w fun e w'=>(∃ c:Int,e=.returned (.int .i64 c))/\w'=w:=by
 go_enter Tryz.func259,Tryz.ntmps259
 go_wp2_with fail;refine (len64_zero _).mono ?_;rintro e w1 ⟨⟨c,rfl⟩,rfl⟩;go_wp2_with fail;go_ret;exact ⟨⟨_,rfl⟩,rfl⟩
theorem insSort_empty (a:Option Addr) (c:Nat) (w:World):Calls Tryz.prog 260 #[.slice a 0 c,.int .i64 0,.int .i64 0] w fun e w'=>e=.returned (.tuple #[])/\w'=w:=by
 go_enter Tryz.func260,Tryz.ntmps260
 go_wp2_with fail
 go_loopg [6] 0 (fun gg s6 wr=>gg=0/\s6=.int .i64 1/\wr=w)
 case atStart=>exact ⟨rfl,rfl,rfl⟩
 case round =>
  obtain ⟨rfl,rfl,rfl⟩:=hrel;go_wp2_with fail;go_end0;exact ⟨rfl,rfl⟩
theorem pdq_empty (a:Option Addr) (c:Nat) (l:Int) (w:World):Calls Tryz.prog 258 #[.slice a 0 c,.int .i64 0,.int .i64 0,.int .i64 l] w fun e w'=>e=.returned (.tuple #[])/\w'=w:=by
 go_enter Tryz.func258,Tryz.ntmps258
 go_wp2_with fail
 go_loopg [1,2,3] 0 (fun gg s1 s2 s3 wr=>gg=0/\s1=.int .i64 0/\s2=.int .i64 0/\wr=w)
 case atStart=>exact ⟨rfl,rfl,rfl,rfl⟩
 case round =>
  obtain ⟨rfl,rfl,rfl,rfl⟩:=hrel;go_wp2_with fail;refine (insSort_empty a c _).mono ?_;rintro e w1 ⟨rfl,rfl⟩;go_wp2_with fail;refine bodyPost_ret (results_none rfl _ _ _) rfl ?_;exact ⟨rfl,rfl⟩
theorem sort_empty (a:Option Addr) (c:Nat) (w:World):Calls Tryz.prog 255 #[.slice a 0 c] w fun e w'=>e=.returned (.tuple #[])/\w'=w:=by
 go_enter Tryz.func255,Tryz.ntmps255
 go_wp2_with fail;refine (len_zero _).mono ?_;rintro e w1 ⟨⟨l,rfl⟩,rfl⟩;go_wp2_with fail;refine (pdq_empty a c l _).mono ?_;rintro e w2 ⟨rfl,rfl⟩;go_wp2_with fail;go_end0;exact ⟨rfl,rfl⟩
theorem collect_calls (Bm b nn:Nat) (D:DM) (w:World) (hBm:Bm<w.heap.size) (hm:w.cell? ⟨Bm,0,none⟩=some (.map (some b))) (hown:w.ownsMap Tryz.prog 95 (plainElem Tryz.prog 62) b nn D) (hsz:Maps.size D<=1048576) :
  Calls Tryz.prog 254 #[.func (.func 256) #[] #[.pointer (some ⟨Bm,0,none⟩)]] w fun e w'=>GatherQ D w.heap.size w e w' :=
 callsIn_wide.1 (collect_in 10 (by omega) Bm b nn D w hBm hm hown hsz)
theorem values_calls (mb:Option Nat) (w:World) :
  Calls Tryz.prog 248 #[.map mb] w fun e w'=>e=.returned (.func (.func 256) #[] #[.pointer (some ⟨w.heap.size,0,none⟩)])/\w'=w.alloc (.cells #[.map mb] 208) :=
 callsIn_wide.1 (values_in 10 mb w)
theorem below_upd {n:Nat} {w w':World} (h:Below n w w') (hn:w.heap.size<=n):Upd [] w w' :=
 ⟨h.os,h.tape,h.output,h.size,fun k hk _=>h.block k (by omega)⟩
theorem flatN_set (l:List Nat) (r n:Nat):(flatN l).set r (.int .i64 n)=flatN (l.set r n):=by simp [flatN,List.map_set]
theorem KerMem.setOrder {w:World} {b g n' c r n:Nat} {K:KV} {T:List DM} {q:KPtr} (h:KerMem w b K T q) (hq:q.ov=.slice (some ⟨g,0,none⟩) n' c) (hr:r<K.order.length) :
  KerMem (w.setCell ⟨g,r,none⟩ (.int .i64 n)) b { K with order:=K.order.set r n } T q:=by
 have hg:q.o g=5:=h.oo g (by rw [hq];rfl)
 have hne:∀ {k c},q.o k=c->c≠5->k≠g:=fun {k c} hk hc hm=>hc (by rw [<- hk,hm,hg])
 have hk:∀ {k c},q.o k=c->c≠5->(w.setCell ⟨g,r,none⟩ (.int .i64 n)).heap[k]?=w.heap[k]?:=fun hk hc=>heap_set_ne (hne hk hc)
 refine ⟨by rw [hk h.ob (by omega)];exact h.blk,h.ar.keep fun k hm=>hk (h.oa k hm) (by omega),h.tab.keep fun k hm=>hk (h.ot k hm) (by omega),row_keep h.us fun k hm=>hk (h.ou k hm) (by omega),
  row_keep h.hs fun k hm=>hk (h.oh k hm) (by omega),?_,row_keep h.ls fun k hm=>hk (h.ol k hm) (by omega),row_keep h.ts fun k hm=>hk (h.ox k hm) (by omega),
  h.ob,h.oa,h.ot,h.ou,h.oh,h.oo,h.ol,h.ox⟩
 have hu:=h.os;rw [hq] at hu ⊢;have:=row_set hu (j:=r) (by omega) (.int .i64 n);rw [flatN_set] at this
 simpa using this
theorem KerMem.setLevel {w:World} {b g n' c r n:Nat} {K:KV} {T:List DM} {q:KPtr} (h:KerMem w b K T q) (hq:q.lv=.slice (some ⟨g,0,none⟩) n' c) (hr:r<K.level.length) :
  KerMem (w.setCell ⟨g,r,none⟩ (.int .i64 n)) b { K with level:=K.level.set r n } T q:=by
 have hg:q.o g=6:=h.ol g (by rw [hq];rfl)
 have hne:∀ {k c},q.o k=c->c≠6->k≠g:=fun {k c} hk hc hm=>hc (by rw [<- hk,hm,hg])
 have hk:∀ {k c},q.o k=c->c≠6->(w.setCell ⟨g,r,none⟩ (.int .i64 n)).heap[k]?=w.heap[k]?:=fun hk hc=>heap_set_ne (hne hk hc)
 refine ⟨by rw [hk h.ob (by omega)];exact h.blk,h.ar.keep fun k hm=>hk (h.oa k hm) (by omega),h.tab.keep fun k hm=>hk (h.ot k hm) (by omega),row_keep h.us fun k hm=>hk (h.ou k hm) (by omega),
  row_keep h.hs fun k hm=>hk (h.oh k hm) (by omega),row_keep h.os fun k hm=>hk (h.oo k hm) (by omega),?_,row_keep h.ts fun k hm=>hk (h.ox k hm) (by omega),
  h.ob,h.oa,h.ot,h.ou,h.oh,h.oo,h.ol,h.ox⟩
 have hu:=h.ls;rw [hq] at hu ⊢;have:=row_set hu (j:=r) (by omega) (.int .i64 n);rw [flatN_set] at this
 simpa using this
theorem KerMem.growTrail {w w5:World} {b g5 cap l:Nat} {X:Obj} {K:KV} {T:List DM} {q:KPtr} (h:KerMem w b K T q) (hg:(w.alloc X).grownBy w5 q.tv.ownBlock) (hat:q.tv.ownBlock=some g5\/g5=w.heap.size+1)
  (hown:w5.ownsRow 0 3 1 (.slice (some ⟨g5,0,none⟩) (K.trail.length+1) cap) (K.trail.length+1) (flatN K.trail++[.int .i64 l])) :
  KerMem (w5.setCell ⟨b,7,none⟩ (.slice (some ⟨g5,0,none⟩) (K.trail.length+1) cap)) b { K with trail:=K.trail++[l] } T { q with tv:=.slice (some ⟨g5,0,none⟩) (K.trail.length+1) cap,o:=retag q w.heap.size 7 }:=by
 have hb:=heap_lt h.blk
 have hbg:b≠g5:=by
  rcases hat with e | e
  ·rintro rfl;have e1:=h.ob;have e2:=h.ox b e;omega
  ·omega
 have keep:∀ {k c:Nat},q.o k=c->c≠7->c≠0->k<w.heap.size->(w5.setCell ⟨b,7,none⟩ (.slice (some ⟨g5,0,none⟩) (K.trail.length+1) cap)).heap[k]?=w.heap[k]?:=by
  intro k c hk hc h0 hl
  rw [heap_set_ne (by rintro rfl;exact h0 (hk ▸ h.ob)),hg.block k (by rw [World.size_alloc];omega) (fun e=>hc (hk ▸ h.ox k e.symm)),Below.heap_alloc _ _ _ hl]
 have hbk:w5.heap[b]?=w.heap[b]?:=by
  rw [hg.block b (by rw [World.size_alloc];omega) (fun e=>by have e1:=h.ob;have e2:=h.ox b e.symm;omega),Below.heap_alloc _ _ _ hb]
 rw [h.blk] at hbk
 refine ⟨by rw [heap_set_eq hbk];simp,h.ar.keep fun k hm=>keep (h.oa k hm) (by omega) (by omega) (h.ar.lt k hm),h.tab.keep fun k hm=>keep (h.ot k hm) (by omega) (by omega) (h.tab.lt k hm),
  row_keep h.us fun k hm=>keep (h.ou k hm) (by omega) (by omega) (h.us.lt k hm).2,row_keep h.hs fun k hm=>keep (h.oh k hm) (by omega) (by omega) (h.hs.lt k hm).2,row_keep h.os fun k hm=>keep (h.oo k hm) (by omega) (by omega) (h.os.lt k hm).2,row_keep h.ls fun k hm=>keep (h.ol k hm) (by omega) (by omega) (h.ls.lt k hm).2,?_,?_,?_,?_,?_,?_,?_,?_,?_⟩
 ·show World.ownsRow _ 0 _ 1 _ (K.trail++[l]).length (flatN (K.trail++[l]))
  have e:=row_ne hown (a:=⟨b,7,none⟩) (by simpa [Value.ownBlock] using hbg) (.slice (some ⟨g5,0,none⟩) (K.trail.length+1) cap)
  simpa [flatN] using e
 ·show retag q _ _ b=0
  rw [retag_old hb];exact h.ob
 ·intro k hk;show retag q _ _ k=1;rw [retag_old (h.ar.lt k hk)];exact h.oa k hk
 ·intro k hk;show retag q _ _ k=2;rw [retag_old (h.tab.lt k hk)];exact h.ot k hk
 ·intro k hk;show retag q _ _ k=3;rw [retag_old (h.us.lt k hk).2];exact h.ou k hk
 ·intro k hk;show retag q _ _ k=4;rw [retag_old (h.hs.lt k hk).2];exact h.oh k hk
 ·intro k hk;show retag q _ _ k=5;rw [retag_old (h.os.lt k hk).2];exact h.oo k hk
 ·intro k hk;show retag q _ _ k=6;rw [retag_old (h.ls.lt k hk).2];exact h.ol k hk
 ·intro k hk
  simp [Value.ownBlock] at hk;subst hk
  show retag q _ _ g5=7
  rcases hat with e | e
  ·rw [retag_old (h.ts.lt g5 e).2];exact h.ox g5 e
  ·unfold retag;rw [if_pos (by omega)]
def KV.swapK (K:KV) (l:Nat):KV:={ K with order:=(K.order.set l (K.order.getD (l+1) 0)).set (l+1) (K.order.getD l 0),level:=(K.level.set (K.order.getD l 0) (l+1)).set (K.order.getD (l+1) 0) l }
theorem getD_eq_some {l:List Nat} {i:Nat} (h:i<l.length):l[i]?=some (l.getD i 0):=by
 rw [List.getD_eq_getElem?_getD,List.getElem?_eq_getElem h];rfl
theorem Tryz.infoIntE:(Tryz.prog.info? 3).map (fun i=>(i.zero,i.size,i.bytes))=some (some (.int .i64 0),1,8):=by kernel_rfl
theorem rowN_cell {w:World} {base g n' c:Nat} {l:List Nat} {n:Nat} (h:w.ownsRow base 3 1 (.slice (some ⟨g,0,none⟩) n' c) n (flatN l)) {j:Nat} (hj:j<l.length):w.cell? ⟨g,j,none⟩=some (.int .i64 (l.getD j 0:Nat)) :=
 row_cell h (by rw [flatN,List.getElem?_map,getD_eq_some hj];rfl)
theorem turn_end {b l go gl co cl n1 n2:Nat} {K:KV} {T:List DM} {q:KPtr} {w:World} (hm:KerMem w b K T q) (ho:q.ov=.slice (some ⟨go,0,none⟩) n1 co) (hv:q.lv=.slice (some ⟨gl,0,none⟩) n2 cl) (h1:l<K.order.length) (h2:l+1<K.order.length)
  (h3:K.order.getD l 0<K.level.length) (h4:K.order.getD (l+1) 0<K.level.length) :
  KerMem ((((w.setCell ⟨go,l,none⟩ (.int .i64 (K.order.getD (l+1) 0:Nat))).setCell ⟨go,l+1,none⟩ (.int .i64 (K.order.getD l 0:Nat))).setCell ⟨gl,K.order.getD l 0,none⟩ (.int .i64 ((l:Int)+1))).setCell ⟨gl,K.order.getD (l+1) 0,none⟩ (.int .i64 l)).drew.drew b (K.swapK l) T q /\
  Upd (q.all b) w ((((w.setCell ⟨go,l,none⟩ (.int .i64 (K.order.getD (l+1) 0:Nat))).setCell ⟨go,l+1,none⟩ (.int .i64 (K.order.getD l 0:Nat))).setCell ⟨gl,K.order.getD l 0,none⟩ (.int .i64 ((l:Int)+1))).setCell ⟨gl,K.order.getD (l+1) 0,none⟩ (.int .i64 l)).drew.drew:=by
 have m1:=hm.setOrder (n:=K.order.getD (l+1) 0) ho h1;have m2:=m1.setOrder (n:=K.order.getD l 0) (r:=l+1) ho (by simpa using h2);have m3:=m2.setLevel (n:=l+1) (r:=K.order.getD l 0) hv h3;have m4:=m3.setLevel (n:=l) (r:=K.order.getD (l+1) 0) hv (by rw [List.length_set];exact h4);have go1:go∈q.all b:=KPtr.mem.2 (.inr (.inr (.inr (.inr (.inr (.inl (by rw [ho];rfl)))))));have gl1:gl∈q.all b:=KPtr.mem.2 (.inr (.inr (.inr (.inr (.inr (.inr (.inl (by rw [hv];rfl))))))))
 exact ⟨(m4.upd ((Upd.refl [] _).drew) (by simp)).upd ((Upd.refl [] _).drew) (by simp),
  ((((((Upd.refl (q.all b) w).setCell (p:=⟨go,l,none⟩) (.inl go1) _).setCell (p:=⟨go,l+1,none⟩) (.inl go1) _).setCell (p:=⟨gl,_,none⟩) (.inl gl1) _).setCell (p:=⟨gl,_,none⟩) (.inl gl1) _).drew).drew⟩
theorem vars_at (b:Nat) (K:KV) (F:List Nat) (w:World) (h:KerAt w b K F) :
  Calls Tryz.prog 48 #[.pointer (some ⟨b,0,none⟩)] w fun e w'=>e=.returned (.int .i64 K.vars)/\w'=w:=by
 obtain ⟨T,q,hk,rfl⟩:=h;exact vars_spec b K T q w hk.mem
theorem node_at_yes (b r:Nat) (K:KV) (F:List Nat) (p:PlaceV) (w:World) (h:KerAt w b K F) (hp:K.A.list[r]?=some p) (hpt:p.taken=true) :
  Calls Tryz.prog 64 #[.pointer (some ⟨b,0,none⟩),.int .u32 r] w fun e w'=>e=.returned (.tuple #[.agg #[.int .i64 p.var,.int .u32 p.lo,.int .u32 p.hi],.int .i64 0])/\Upd [] w w':=by
 obtain ⟨T,q,hk,rfl⟩:=h;have:=hk.ok.ref_lt (ArenaV.tk_iff.2 ⟨p,hp,hpt⟩);exact nodeof_yes b r K T q p w hk.mem (by omega) hp hpt
theorem KV.Ok.place {K:KV} (hk:K.Ok) {r:Nat} (h2:2<=r) (ht:K.A.tk r=true):∃ (p:PlaceV) (v:Nat),K.A.list[r]?=some p/\p.taken=true/\p.var=(v:Int)/\v<K.vars/\K.A.tk p.lo=true/\K.A.tk p.hi=true/\K.dep r<K.dep p.lo/\K.dep r<K.dep p.hi/\(∀ x,K.den r x=if x v then K.den p.hi x else K.den p.lo x):=by
 obtain ⟨p,v,hp,hpt,hv,hvl,h3,h4,hd⟩:=hk.wf.node_at h2 ht;have hb:=hk.ord.below hk.wf h2 hp hpt;refine ⟨p,v,hp,hpt,hv,hvl,h3,h4,hb.1,hb.2,fun x=>?_⟩;rw [KV.den_node hk.wf hk.ord h2 hp hpt,show p.var.toNat=v by omega]
theorem value_spec (b r:Nat) (x:Int) (K:KV) (F:List Nat) (w:World) (h:KerAt w b K F) (hr:K.A.tk r=true) (hx:U64 x) :
  Calls Tryz.prog 32 #[.pointer (some ⟨b,0,none⟩),.int .u32 r,.int .u64 x] w fun e w'=>e=.returned (.tuple #[.bool (K.den r fun v=>nb x v),.bool true])/\Upd [] w w':=by
 have HK:=Lib.hid h;have hvs:=h.ok.wf.vs;have HR:=Lib.hid hr;have HX:=Lib.hid hx;clear h hr;unfold U64 at hx
 go_enter Tryz.func32,Tryz.ntmps32
 go_wp2_with fail
 go_loopg [1,10] 65 (fun g s1 s10 wr=>∃ (i r':Nat),65-i=g/\i<=65/\s10=.int .i64 i/\s1=.int .u32 r'/\K.A.tk r'=true/\i<=K.dep r'/\(K.den r' (fun v=>nb x v)=K.den r (fun v=>nb x v))/\Upd [] w wr)
 case atStart=>exact ⟨0,r,by omega,by omega,rfl,rfl,HR.out,by omega,rfl,Upd.refl _ _⟩
 case round =>
  obtain ⟨i,r',rfl,hi,rfl,rfl,ht,hd,he,hU⟩:=hrel;have hdl:=HK.out.ok.wf.dep_le HK.out.ok.ord ht
  have hi64:i<=64:=by omega
  have hil:(i:Int)<65:=by omega
  by_cases h2:r'<=1
  ·have hr1:(r':Int)<=1:=by omega
   have HE:Hid (((r':Int) == 1)=K.den r fun v=>nb x v):=by
    show _=_
    rw [<- he,K.den_const (by omega),Bool.eq_iff_iff]
    simp only [beq_iff_eq];omega
   have HU:=Lib.hid hU;clear hU he hd ht hdl;go_wp2_with fail;go_ret2;exact ⟨by rw [<- HE.out];rfl,HU.out⟩
  ·obtain ⟨p,v,hp,hpt,hv,hvl,h3,h4,h5,h6,h7⟩:=HK.out.ok.place (r:=r') (by omega) ht
   have hr1:¬ ((r':Int)<=1):=by omega
   have HN:=Lib.hid (node_at_yes b r' K F p wr (HK.out.upd hU (by simp)) hp hpt);rw [hv] at HN
   have HE:Hid (K.den r (fun v=>nb x v)=if nb x v then K.den p.hi (fun v=>nb x v) else K.den p.lo (fun v=>nb x v)):=by
    show _=_
    rw [<- he,h7]
   have HP:=Lib.hid (And.intro h3 (And.intro h4 (And.intro (show i+1<=K.dep p.lo by omega) (show i+1<=K.dep p.hi by omega))));have HU:=Lib.hid hU
   have hv0:¬ ((v:Int)<0):=by omega
   have hv64:¬ ((64:Int)<=(v:Int)):=by omega
   have hv65:(v:Int)<64:=by omega
   have hdv0:decide ((v:Int)<0)=false:=by simp
   have hdv:decide ((64:Int)<=(v:Int))=false:=by simp;omega
   clear hU he hd ht hdl hp hpt hv h3 h4 h5 h6 h7;generalize p.lo=lo at *;generalize p.hi=hi at *;go_wp2_with fail;refine HN.out.mono ?_;rintro e w3 ⟨rfl,hu⟩;have HU3:=Lib.hid (HU.out.trans hu);clear hu HN;have HBT:=Lib.hid (bitT_nb HX.out v);unfold bitT at HBT
   cases hbt:(bits BinOp.and IntKind.u64 (x/2 ^ v) 1 == 1) with
   | true =>
    have HG:Hid (K.den hi (fun v=>nb x v)=K.den r (fun v=>nb x v)):=by
     show _=_
     rw [HE.out,<- HBT.out,hbt,if_pos rfl]
    go_wp2_with fail
    go_roundg (65-(i+1))
    case measure=>omega
    case rel=>exact ⟨i+1,hi,rfl,by omega,by simp,rfl,HP.out.2.1,HP.out.2.2.2,HG.out,HU3.out.alloc _⟩
   | false =>
    have HG:Hid (K.den lo (fun v=>nb x v)=K.den r (fun v=>nb x v)):=by
     show _=_
     rw [HE.out,<- HBT.out,hbt,if_neg (by simp)]
    go_wp2_with fail
    go_roundg (65-(i+1))
    case measure=>omega
    case rel=>exact ⟨i+1,lo,rfl,by omega,by simp,rfl,HP.out.1,HP.out.2.2.1,HG.out,HU3.out.alloc _⟩
def u64m (n:Nat):Int:=((n % 18446744073709551616:Nat):Int)
theorem u64m_wf (n:Nat):(Lit.int .u64 (u64m n)).wf=true:=by
 unfold u64m;exact wfU (by have:=Nat.mod_lt n (show 0<18446744073709551616 by omega);omega)
theorem u64m_wrap (n:Nat):IntKind.u64.wrap (n:Int)=u64m n:=by rw [IntKind.wrap_u64];unfold u64m;omega
theorem u64m_add (a c:Nat):IntKind.u64.wrap (u64m a+u64m c)=u64m (a+c):=by
 rw [IntKind.wrap_u64];unfold u64m;omega
theorem u64m_mul (a k:Nat):IntKind.u64.wrap (u64m a*(k:Int))=u64m (a*k):=by
 rw [IntKind.wrap_u64];unfold u64m
 have e:∀ m:Nat,((m:Int) % 18446744073709551616)=((m % 18446744073709551616:Nat):Int):=fun m=>by omega
 rw [<- Int.natCast_mul,e,Nat.mul_mod,Nat.mod_mod,<- Nat.mul_mod]
theorem u64m_small {n:Nat} (h:n<2):u64m n=n:=by unfold u64m;omega
theorem enters_paths:Enters 120:=fun args w=>by simp [go_sem]
theorem cb_paths (x y z:Int) (a c:Nat) (w:World) :
  Calls Tryz.prog 120 #[.agg #[.int .i64 x,.int .u32 y,.int .u32 z],.int .u64 (u64m a),.int .u64 (u64m c)] w fun e w'=>e=.returned (.int .u64 (u64m (a+c)))/\Upd [] w w':=by
 have HA:=Lib.hid (u64m_add a c);generalize u64m (a+c)=g at *;generalize u64m a=a1 at *;generalize u64m c=c1 at *
 go_enter Tryz.func120,Tryz.ntmps120
 go_wp2_with fail;go_ret;exact ⟨by rw [<- HA.out];rfl,(Upd.refl _ _).alloc _⟩
theorem row_one (w:World) (f:Nat):(w.alloc (.cells #[.int .u32 f] 62 (0,0))).ownsRow 0 62 1 (.slice (some ⟨w.heap.size,0,none⟩) 1 1) [f].length (flatRefs [f]) :=
 World.ownsRow_lit (base:=0) (e:=62) (size:=1) w #[.int .u32 f] 1 (Nat.zero_le _) (by unfold maxLen;omega) rfl
structure AskQ2 (b:Nat) (K:KV) (T:List DM) (q:KPtr) (v:Value) (w:World) (e:Ending) (w':World):Prop where
 e:e=.returned (.tuple #[v,.int .i64 0])
 k:KerIn w' b K T q
 u:Upd [] w w'
theorem paths_spec (b f:Nat) (K:KV) (T:List DM) (q:KPtr) (w:World) (h:KerIn w b K T q) (hf:K.A.tk f=true) :
  Calls Tryz.prog 41 #[.pointer (some ⟨b,0,none⟩),.int .u32 f] w fun e w'=>AskQ2 b K T q (.int .u64 (u64m (K.way f))) w e w':=by
 have HK:=Lib.hid h
 have HL:Hid (∀ r,r∈[f]->K.A.tk r=true):=fun r hr=>by
  simp only [List.mem_singleton] at hr;subst hr;exact hf
 have HF:=Lib.hid hf
 have HCB:Hid (∀ w,FoldCb 120 #[] K (fun r=>u64m (K.way r)) (fun z=>Upd [] w z)):=fun w z r p _ h2 hp hpt=>by
  show Calls _ _ _ _ fun e w'=>e=.returned (.int .u64 (u64m (K.way r)))/\_
  rw [KV.way_node HK.out.ok.wf HK.out.ok.ord h2 hp hpt];exact cb_paths _ _ _ _ _ z
 clear h hf
 go_enter Tryz.func41,Tryz.ntmps41
 go_wp2_with fail;refine (clive_ok b K T q _ [f] _ (HK.out.upd ((Upd.refl [] w).alloc _) (by simp)) (row_one w f) HL.out (by simp)).mono ?_;rintro e w1 ⟨rfl,hu⟩;have HU1:=Lib.hid (((Upd.refl [] w).alloc _).trans hu);clear hu;go_wp2_with fail;refine (fold_spec b 120 f #[] K T q (fun r=>u64m (K.way r)) w1 (HK.out.upd HU1.out (by simp)) enters_paths (HCB.out w1) (fun x=>u64m_wf _) (by rw [K.way_const (by omega)];exact u64m_small (by omega)) (by rw [K.way_const (by omega)];exact u64m_small (by omega)) HF.out).mono ?_;rintro e w2 ⟨rfl,hu,hk2⟩;have HE:=Lib.hid (And.intro hk2 (HU1.out.trans hu));clear hu hk2;go_wp2_with fail;go_ret2;exact ⟨rfl,HE.out.1,HE.out.2⟩
theorem enters_size:Enters 118:=fun args w=>by simp [go_sem]
def sizStep (s:Int) (_:Nat):Int:=wrap64 (s+1)
theorem cb_size (sb:Nat):CbOk 118 #[.pointer (some ⟨sb,0,none⟩)] sb 3 (fun s=>.int .i64 s) sizStep:=fun w s n lo hi hn hb=>by
 have hlt:=heap_lt hb;have e1:(w.alloc (.cells #[.int .i64 (n:Int),.int .u32 lo,.int .u32 hi] 95 (0,0))).heap[sb]?=_:=(heap_alloc_old _ _ hlt).trans hb;have c1:=cell_at (j:=0) e1 rfl;have f1:=frozen_at 0 e1;have HB:=Lib.hid (And.intro hb e1);clear hb e1
 show Calls _ _ #[.agg #[.int .i64 (n:Int),.int .u32 lo,.int .u32 hi],.pointer (some ⟨sb,0,none⟩)] _ _
 go_enter Tryz.func118,Tryz.ntmps118
 go_wp2_with fail;go_end0;refine ⟨rfl,?_,?_⟩
 ·have e:=heap_set_eq (j:=0) HB.out.1 (.int .i64 (wrap64 (s+1)))
  exact (heap_alloc_old _ _ (heap_lt e)).trans e
 ·exact ((Upd.refl [sb] w).setCell (p:=⟨sb,0,none⟩) (.inl (by simp)) _).alloc _
theorem siz_fold (f:Nat->Nat):∀ (N:List Nat) (s:Nat),s+N.length<=1048576->N.foldl (fun s x=>sizStep s (f x)) (s:Int)=((s+N.length:Nat):Int)
 | [],s,_=>by simp
 | x::N,s,h=>by
  simp only [List.length_cons] at h
  have e:sizStep (s:Int) (f x)=((s+1:Nat):Int):=by
   unfold sizStep;rw [IntWalk.wrap64_in _ (by omega)];omega
  rw [List.foldl_cons,e,siz_fold f N (s+1) (by omega)]
  simp only [List.length_cons];omega
structure WalkA (K:KV) (V rs N:List Nat):Prop where
 nd:(V++N).Nodup
 has:∀ r,r∈rs->2<=r->r∈V++N
 two:∀ x,x∈N->2<=x/\K.A.tk x=true
 under:∀ x,x∈N->∃ r,r∈rs/\K.Under r x
 kids:∀ (x:Nat) (p:PlaceV),x∈N->K.A.list[x]?=some p->(p.lo<2\/p.lo∈V++N)/\(p.hi<2\/p.hi∈V++N)
theorem WalkL.alls {K:KV} {V rs N:List Nat} (h:WalkL K V rs N):V.Nodup->WalkA K V rs N:=by
 induction h with
 | nil V=>intro hv;exact ⟨by simpa using hv,by simp,by simp,by simp,by simp⟩
 | @cons V N N' r rs h t ih =>
  intro hv
  have a:=ih h.nd
  have e:V++(N++N')=V++N++N':=by simp
  refine ⟨by rw [e];exact a.nd,fun s hs h2=>?_,fun x hx=>?_,fun x hx=>?_,fun x p hx hp=>?_⟩
  ·rw [e]
   rcases List.mem_cons.1 hs with rfl | hs
   ·exact List.mem_append.2 (.inl (h.has h2))
   ·exact a.has s hs h2
  ·rcases List.mem_append.1 hx with hx | hx
   ·exact h.two x hx
   ·exact a.two x hx
  ·rcases List.mem_append.1 hx with hx | hx
   ·exact ⟨r,by simp,h.under x hx⟩
   ·obtain ⟨s,hs,hu⟩:=a.under x hx
    exact ⟨s,by simp [hs],hu⟩
  ·rw [e]
   rcases List.mem_append.1 hx with hx | hx
   ·obtain ⟨k1,k2⟩:=h.kids x p hx hp
    exact ⟨k1.imp_right fun k=>List.mem_append.2 (.inl k),k2.imp_right fun k=>List.mem_append.2 (.inl k)⟩
   ·exact a.kids x p hx hp
theorem WalkL.len {K:KV} {rs N:List Nat} (h:WalkL K [] rs N) (hk:K.Ok):N.length<=1048574:=by
 have a:=h.alls List.nodup_nil
 have hn:(0::1::N).Nodup:=by
  have h0:(N).Nodup:=by simpa using a.nd
  refine List.nodup_cons.2 ⟨fun hm=>?_,List.nodup_cons.2 ⟨fun hm=>?_,h0⟩⟩
  ·rcases List.mem_cons.1 hm with h | h
   ·omega
   ·have:=(a.two 0 h).1;omega
  ·have:=(a.two 1 hm).1;omega
 have h1:=KV.used_ge hk.wf hn (fun x hx=>by
  rcases List.mem_cons.1 hx with rfl | hx
  ·exact hk.wf.ok.tk01.1
  ·rcases List.mem_cons.1 hx with rfl | hx
   ·exact hk.wf.ok.tk01.2
   ·exact (a.two x hx).2)
 have h2:=hk.wf.ok.us;have h3:=hk.wf.ok.pm;have h4:=hk.wf.ok.lp
 simp only [List.length_cons] at h1
 omega
structure SizQ (b:Nat) (K:KV) (T:List DM) (q:KPtr) (rs:List Nat) (w:World) (e:Ending) (w':World):Prop where
 ex:∃ N:List Nat,WalkL K [] rs N/\e=.returned (.tuple #[.int .i64 (N.length:Nat),.int .i64 0])/\KerIn w' b K T q/\Upd [] w w'
theorem size12_spec (b:Nat) (lv:Value) (rs:List Nat) (K:KV) (T:List DM) (q:KPtr) (w:World) (h:KerIn w b K T q) (hrow:w.ownsRow 0 62 1 lv rs.length (flatRefs rs)) (hl:∀ r,r∈rs->K.A.tk r=true) (hlen:rs.length<=1099511627776) :
  Calls Tryz.prog 40 #[.pointer (some ⟨b,0,none⟩),lv] w fun e w'=>SizQ b K T q rs w e w':=by
 have hmf:∀ (fn:Fn) (first cap:Array Value) (w:World),(Instr.makeFunc fn first cap).run Tryz.prog w=.ok (.func fn first cap) w:=fun _ _ _ _=>rfl
 obtain ⟨fa,fc,rfl,_⟩:=row_nil_len hrow;have HK:=Lib.hid h;have HL:=Lib.hid hl
 have HROW:Hid (∀ z,Upd [] w z->z.ownsRow 0 62 1 (.slice fa rs.length fc) rs.length (flatRefs rs)):=fun z u=>row_keep hrow fun k hk=>u.block k (hrow.lt k hk).2 (by simp)
 have HRL:Hid (∀ k,(Value.slice fa rs.length fc).ownBlock=some k->k<w.heap.size):=fun k hk=>(hrow.lt k hk).2
 clear h hl hrow
 go_enter Tryz.func40,Tryz.ntmps40
 go_wp2_with fail;refine (clive_ok b K T q _ rs _ HK.out (HROW.out w (Upd.refl _ _)) HL.out hlen).mono ?_;rintro e w1 ⟨rfl,hu⟩;have HU1:=Lib.hid hu;clear hu;go_wp2_with fail;have hsb:=heap_alloc_new w1 (.cells #[.int .i64 0] 3 (0,0));have HKA:=Lib.hid (HK.out.upd (HU1.out.alloc (.cells #[.int .i64 0] 3 (0,0))) (by simp))
 have hnq:w1.heap.size∉q.all b:=fun hm=>by
  have:=HK.out.mem.lt _ hm;have:=HU1.out.size;omega
 refine (below_spec b w1.heap.size 118 #[.pointer (some ⟨w1.heap.size,0,none⟩)] 3 (fun s=>.int .i64 s) sizStep K T q _ rs 0 _ enters_size (cb_size w1.heap.size) HKA.out hsb hnq (HROW.out _ (HU1.out.alloc _)) (fun e=>by have:=HRL.out _ e;have:=HU1.out.size;omega) HL.out hlen).mono ?_;rintro e w2 ⟨rfl,hQ⟩;obtain ⟨N,hN,hk2,hs2,hu2⟩:=hQ.ex;have hln:=hN.len HK.out.ok;have hfe:=siz_fold (fun x=>K.vof x) N 0 (by omega);rw [Nat.zero_add] at hfe;have e0:((0:Nat):Int)=0:=rfl;rw [e0] at hfe;rw [hfe] at hs2;have x0:=cell_at (j:=0) hs2 rfl
 have HE:Hid (WalkL K [] rs N/\KerIn w2 b K T q/\Upd [] w w2):=⟨hN,hk2,(HU1.out.alloc _).then hu2 fun x hx=>by
  simp at hx;subst hx;right;exact HU1.out.size⟩
 clear hQ hN hk2 hs2 hu2 hsb hnq hln hfe e0;go_wp2_with fail;go_ret2;exact ⟨N,HE.out.1,rfl,HE.out.2.1,HE.out.2.2⟩
theorem eval_spec (b f:Nat) (x:Int) (K:KV) (T:List DM) (q:KPtr) (w:World) (h:KerIn w b K T q) (hf:K.A.tk f=true) (hx:U64 x) :
  Calls Tryz.prog 43 #[.pointer (some ⟨b,0,none⟩),.int .u32 f,.int .u64 x] w fun e w'=>AskQ2 b K T q (.bool (K.den f fun v=>nb x v)) w e w':=by
 have HK:=Lib.hid h;have hvs:=h.ok.wf.vs;have HR:=Lib.hid hf;have HX:=Lib.hid hx
 have HL:Hid (∀ r,r∈[f]->K.A.tk r=true):=fun r hr=>by
  simp only [List.mem_singleton] at hr;subst hr;exact hf
 clear h hf;unfold U64 at hx
 go_enter Tryz.func43,Tryz.ntmps43
 go_wp2_with fail;refine (clive_ok b K T q _ [f] _ (HK.out.upd ((Upd.refl [] w).alloc _) (by simp)) (row_one w f) HL.out (by simp)).mono ?_;rintro e w1 ⟨rfl,hu⟩;have HU1:=Lib.hid (((Upd.refl [] w).alloc _).trans hu);clear hu;go_wp2_with fail
 go_loopg [1] 66 (fun g s1 wr=>∃ (i r':Nat),66-i=g/\i<=65/\s1=.int .u32 r'/\K.A.tk r'=true/\i<=K.dep r'/\(K.den r' (fun v=>nb x v)=K.den f (fun v=>nb x v))/\Upd [] w1 wr)
 case atStart=>exact ⟨0,f,by omega,by omega,rfl,HR.out,by omega,rfl,Upd.refl _ _⟩
 case round =>
  obtain ⟨i,r',rfl,hi,rfl,ht,hd,he,hU⟩:=hrel;have hdl:=HK.out.ok.wf.dep_le HK.out.ok.ord ht
  have hi64:i<=64:=by omega
  by_cases h2:r'<2
  ·have hd2:decide (r'<2)=true:=by simpa using h2
   have HCC:=Lib.hid (cconst_spec r' wr);rw [hd2] at HCC
   have HE:Hid (((r':Int) == 1)=K.den f fun v=>nb x v):=by
    show _=_
    rw [<- he,K.den_const (by omega),Bool.eq_iff_iff]
    simp only [beq_iff_eq];omega
   have HU:=Lib.hid (HU1.out.trans hU);have HKE:=Lib.hid (HK.out.upd HU.out (by simp));clear hU he hd ht hdl hd2 h2;go_wp2_with fail;refine HCC.out.mono ?_;rintro e w3 ⟨rfl,rfl⟩;go_wp2_with fail;go_ret2;exact ⟨by rw [<- HE.out];rfl,HKE.out,HU.out⟩
  ·obtain ⟨p,v,hp,hpt,hv,hvl,h3,h4,h5,h6,h7⟩:=HK.out.ok.place (r:=r') (by omega) ht
   have hd2:decide (r'<2)=false:=by simpa using h2
   have HCC:=Lib.hid (cconst_spec r' wr);rw [hd2] at HCC;have hrl:=HK.out.ok.ref_lt ht;have HN:=Lib.hid (cnode_spec b r' K T q p wr (HK.out.upd (HU1.out.trans hU) (by simp)).mem (by omega) hp hpt);rw [hv] at HN
   have HE:Hid (K.den f (fun v=>nb x v)=if nb x v then K.den p.hi (fun v=>nb x v) else K.den p.lo (fun v=>nb x v)):=by
    show _=_
    rw [<- he,h7]
   have HP:=Lib.hid (And.intro h3 (And.intro h4 (And.intro (show i+1<=K.dep p.lo by omega) (show i+1<=K.dep p.hi by omega))));have HU:=Lib.hid hU
   have hv65:(v:Int)<64:=by omega
   clear hU he hd ht hdl hp hpt hv h3 h4 h5 h6 h7 hd2 h2;generalize p.lo=lo at *;generalize p.hi=hi at *;go_wp2_with fail;refine HCC.out.mono ?_;rintro e w3 ⟨rfl,rfl⟩;go_wp2_with fail;refine HN.out.mono ?_;rintro e w3 ⟨rfl,hu⟩;have HU3:=Lib.hid (HU.out.trans hu);clear hu HN;have HBT:=Lib.hid (bitT_nb HX.out v);unfold bitT at HBT
   cases hbt:(bits BinOp.and IntKind.u64 (x/2 ^ v) 1 == 1) with
   | true =>
    have HG:Hid (K.den hi (fun v=>nb x v)=K.den f (fun v=>nb x v)):=by
     show _=_
     rw [HE.out,<- HBT.out,hbt,if_pos rfl]
    go_wp2_with fail
    go_roundg (66-(i+1))
    case measure=>omega
    case rel=>exact ⟨i+1,hi,rfl,by omega,rfl,HP.out.2.1,HP.out.2.2.2,HG.out,HU3.out.alloc _⟩
   | false =>
    have HG:Hid (K.den lo (fun v=>nb x v)=K.den f (fun v=>nb x v)):=by
     show _=_
     rw [HE.out,<- HBT.out,hbt,if_neg (by simp)]
    go_wp2_with fail
    go_roundg (66-(i+1))
    case measure=>omega
    case rel=>exact ⟨i+1,lo,rfl,by omega,rfl,HP.out.1,HP.out.2.2.1,HG.out,HU3.out.alloc _⟩
end Go.Proofs.YtlkgkojidclncaaGreat
namespace Go.Proofs.YtlkgkojidclncaaGreat
open Go.RowKit
structure NetL (K:KV) (L:List Nat):Prop where
 nd:L.Nodup
 two:∀ x,x∈L->2<=x/\K.A.tk x=true
 kids:∀ (x:Nat) (p:PlaceV),x∈L->K.A.list[x]?=some p->(p.lo<2\/p.lo∈L)/\(p.hi<2\/p.hi∈L)
theorem NetL.nil (K:KV):NetL K []:=⟨List.nodup_nil,by simp,by simp⟩
theorem NetL.push {K:KV} {L:List Nat} {r:Nat} {p:PlaceV} (h:NetL K L) (h2:2<=r) (hn:r∉L) (hp:K.A.list[r]?=some p) (hpt:p.taken=true) (h0:p.lo<2\/p.lo∈L) (h1:p.hi<2\/p.hi∈L):NetL K (L++[r]):=by
 have up:∀ {x:Nat},x<2\/x∈L->x<2\/x∈L++[r]:=fun h=>h.imp_right fun h=>List.mem_append.2 (.inl h)
 refine ⟨List.nodup_append.2 ⟨h.nd,by simp,fun a ha b hb=>by simp at hb;subst hb;intro e;subst e;exact hn ha⟩,fun x hx=>?_,fun x c hx hc=>?_⟩
 ·rcases List.mem_append.1 hx with hx | hx
  ·exact h.two x hx
  ·simp at hx;subst hx;exact ⟨h2,ArenaV.tk_iff.2 ⟨p,hp,hpt⟩⟩
 ·rcases List.mem_append.1 hx with hx | hx
  ·exact ⟨up (h.kids x c hx hc).1,up (h.kids x c hx hc).2⟩
  ·simp at hx;subst hx
   rw [hp] at hc;cases hc
   exact ⟨up h0,up h1⟩
theorem NetL.below {K:KV} {L:List Nat} {r x:Nat} (h:NetL K L) (hr:r∈L) (hu:K.Under r x):x∈L:=by
 induction hu with
 | refl h2=>exact hr
 | lo _ hp h2 ih =>
  rcases (h.kids _ _ ih hp).1 with h3 | h3
  ·omega
  ·exact h3
 | hi _ hp h2 ih =>
  rcases (h.kids _ _ ih hp).2 with h3 | h3
  ·omega
  ·exact h3
theorem NetL.len {K:KV} {L:List Nat} (h:NetL K L) (hk:K.Ok):L.length+2<=K.A.used:=by
 have hn:(0::1::L).Nodup:=by
  refine List.nodup_cons.2 ⟨fun hm=>?_,List.nodup_cons.2 ⟨fun hm=>?_,h.nd⟩⟩
  ·rcases List.mem_cons.1 hm with h1 | h1
   ·omega
   ·have:=(h.two 0 h1).1;omega
  ·have:=(h.two 1 hm).1;omega
 have h1:=KV.used_ge hk.wf hn (fun x hx=>by
  rcases List.mem_cons.1 hx with rfl | hx
  ·exact hk.wf.ok.tk01.1
  ·rcases List.mem_cons.1 hx with rfl | hx
   ·exact hk.wf.ok.tk01.2
   ·exact (h.two x hx).2)
 simpa using h1
theorem NetL.len_places {K:KV} {L:List Nat} (h:NetL K L) (hk:K.Ok):L.length+2<=K.A.places:=by
 have:=h.len hk;have:=hk.wf.ok.us;have:=hk.wf.ok.lp;omega
theorem KV.Under.two {K:KV} {r x:Nat} (h:K.Under r x):2<=r:=by
 induction h with
 | refl h=>exact h
 | lo _ _ _ ih=>exact ih
 | hi _ _ _ ih=>exact ih
theorem KV.Under.dep {K:KV} (hk:K.Ok) {r x:Nat} (ht:K.A.tk r=true) (h:K.Under r x):K.dep r<=K.dep x:=by
 induction h with
 | refl _=>exact Nat.le_refl _
 | lo h hp _ ih =>
  have hn:=h.node hk.wf ht;obtain ⟨p,hp',hpt⟩:=ArenaV.tk_iff.1 hn.2
  rw [hp] at hp';cases hp'
  have:=(hk.ord.below hk.wf hn.1 hp hpt).1;omega
 | hi h hp _ ih =>
  have hn:=h.node hk.wf ht;obtain ⟨p,hp',hpt⟩:=ArenaV.tk_iff.1 hn.2
  rw [hp] at hp';cases hp'
  have:=(hk.ord.below hk.wf hn.1 hp hpt).2;omega
structure NetA (K:KV) (r:Nat) (L N:List Nat):Prop where
 net:NetL K (L++N)
 has:r<2\/r∈L++N
 under:∀ x,x∈N->K.Under r x
theorem NetA.none {K:KV} {r:Nat} {L:List Nat} (h:NetL K L) (hr:r<2\/r∈L):NetA K r L []:=⟨by simpa using h,by simpa using hr,by simp⟩
theorem NetA.node {K:KV} {r:Nat} {p:PlaceV} {L N0 N1:List Nat} (hk:K.Ok) (h2:2<=r) (hn:r∉L) (hp:K.A.list[r]?=some p) (hpt:p.taken=true) (A0:NetA K p.lo L N0) (A1:NetA K p.hi (L++N0) N1) :
  NetA K r L (N0++N1++[r])/\r∉L++N0++N1:=by
 have ht:K.A.tk r=true:=ArenaV.tk_iff.2 ⟨p,hp,hpt⟩;have hb:=hk.ord.below hk.wf h2 hp hpt;have hc:=hk.wf.cl r p h2 hp hpt
 have hnr:r∉L++N0++N1:=fun hm=>by
  rcases List.mem_append.1 hm with hm | hm
  ·rcases List.mem_append.1 hm with hm | hm
   ·exact hn hm
   ·have:=(A0.under r hm).dep hk hc.1;omega
  ·have:=(A1.under r hm).dep hk hc.2;omega
 have h0:p.lo<2\/p.lo∈L++N0++N1:=A0.has.imp_right fun h=>List.mem_append.2 (.inl h)
 have e:L++(N0++N1++[r])=L++N0++N1++[r]:=by simp
 refine ⟨⟨by rw [e];exact A1.net.push h2 hnr hp hpt h0 A1.has,.inr (by simp),fun x hx=>?_⟩,hnr⟩
 rcases List.mem_append.1 hx with hx | hx
 ·rcases List.mem_append.1 hx with hx | hx
  ·have hu:=A0.under x hx
   exact (KV.Under.lo (.refl h2) hp hu.two).trans hu
  ·have hu:=A1.under x hx
   exact (KV.Under.hi (.refl h2) hp hu.two).trans hu
 ·simp at hx;subst hx;exact .refl h2
structure NetOf (K:KV) (r:Nat) (L:List Nat):Prop where
 nd:L.Nodup
 mem:∀ x,x∈L↔K.Under r x
theorem NetA.of {K:KV} {r:Nat} {N:List Nat} (h:NetA K r [] N):NetOf K r N:=by
 have hn:NetL K N:=by simpa using h.net
 refine ⟨hn.nd,fun x=>⟨h.under x,fun hu=>hn.below ?_ hu⟩⟩
 rcases h.has with h1 | h1
 ·have:=hu.two;omega
 ·simpa using h1
theorem WalkN.of {K:KV} {r:Nat} {N:List Nat} (h:WalkN K [] r N):NetOf K r N:=⟨by simpa using h.nd,fun _=>h.mem⟩
theorem WalkL.of3 {K:KV} {r:Nat} {N:List Nat} (h:WalkL K [] [r,r,1] N):NetOf K r N:=by
 have a:=h.alls List.nodup_nil
 have hnd:N.Nodup:=by simpa using a.nd
 refine ⟨hnd,fun x=>⟨fun hx=>?_,fun hu=>?_⟩⟩
 ·obtain ⟨s,hs,hu⟩:=a.under x hx
  simp at hs
  rcases hs with rfl | rfl
  ·exact hu
  ·have:=hu.two;omega
 ·have hr:r∈N:=by simpa using a.has r (by simp) hu.two
  induction hu with
  | refl h2=>exact hr
  | lo _ hp h2 ih =>
   rcases (a.kids _ _ ih hp).1 with h3 | h3
   ·omega
   ·simpa using h3
  | hi _ hp h2 ih =>
   rcases (a.kids _ _ ih hp).2 with h3 | h3
   ·omega
   ·simpa using h3
theorem NetOf.len_eq {K:KV} {r:Nat} {L M:List Nat} (h:NetOf K r L) (k:NetOf K r M):L.length=M.length :=
 Nat.le_antisymm (List.Nodup.length_le_of_subset h.nd fun x hx=>(k.mem x).2 ((h.mem x).1 hx)) (List.Nodup.length_le_of_subset k.nd fun x hx=>(h.mem x).2 ((k.mem x).1 hx))
theorem NetOf.sup_eq {K:KV} {r:Nat} {L M:List Nat} (hk:K.Ok) (ht:K.A.tk r=true) (h:NetOf K r L) (k:NetOf K r M):L.foldl (fun s x=>supStep s (K.vof x)) 0=M.foldl (fun s x=>supStep s (K.vof x)) 0:=by
 have hv:∀ x,K.Under r x->K.vof x<64:=fun x hx=>by
  have:=hx.node hk.wf ht;have:=hk.wf.vof_lt this.1 this.2;have:=hk.wf.vs;omega
 obtain ⟨a1,a2⟩:=sup_fold' K L (fun x hx=>hv x ((h.mem x).1 hx)) 0 (by unfold U64;omega);obtain ⟨b1,b2⟩:=sup_fold' K M (fun x hx=>hv x ((k.mem x).1 hx)) 0 (by unfold U64;omega)
 refine nb_ext a1 b1 fun i _=>?_
 rw [a2,b2]
 congr 1
 rw [Bool.eq_iff_iff]
 simp only [decide_eq_true_eq]
 constructor
 ·rintro ⟨x,hx,e⟩;exact ⟨x,(k.mem x).2 ((h.mem x).1 hx),e⟩
 ·rintro ⟨x,hx,e⟩;exact ⟨x,(h.mem x).2 ((k.mem x).1 hx),e⟩
def placeOf (L:List Nat) (r:Nat):Int:=match L.findIdx? (· == r) with | some i=>(i:Int) | none=>-1
theorem placeOf_none {L:List Nat} {r:Nat} (h:r∉L):placeOf L r=-1:=by
 unfold placeOf;rw [List.findIdx?_eq_none_iff.2 fun x hx=>by simp;rintro rfl;exact h hx]
theorem placeOf_some {L:List Nat} {r:Nat} (h:r∈L):∃ i:Nat,placeOf L r=i/\L[i]?=some r:=by
 unfold placeOf
 cases e:L.findIdx? (· == r) with
 | none =>
  have:=List.findIdx?_eq_none_iff.1 e r h
  simp at this
 | some i =>
  obtain ⟨hi,h1,_⟩:=List.findIdx?_eq_some_iff_getElem.1 e;refine ⟨i,rfl,?_⟩;rw [List.getElem?_eq_getElem hi]
  simp at h1
  rw [h1]
theorem placeOf_at {L:List Nat} {r i:Nat} (hi:L[i]?=some r) (hn:∀ j,j<i->L[j]?≠some r):placeOf L r=i:=by
 unfold placeOf;have hl:i<L.length:=(List.getElem?_eq_some_iff.1 hi).1
 have:L.findIdx? (· == r)=some i:=by
  refine List.findIdx?_eq_some_iff_getElem.2 ⟨hl,?_,fun j hj=>?_⟩
  ·rw [List.getElem?_eq_getElem hl] at hi;simpa using hi
  ·have:=hn j hj
   rw [List.getElem?_eq_getElem (by omega)] at this
   simpa using this
 rw [this]
end Go.Proofs.YtlkgkojidclncaaGreat
namespace Go.Proofs.YtlkgkojidclncaaGreat
open Go.RowKit Go.Maps Go.ChangeMaps Go.WideShapes
theorem flatRefs_get {l:List Nat} {i r:Nat} (h:l[i]?=some r):(flatRefs l)[i]?=some (.int .u32 r):=by rw [flatRefs,List.getElem?_map,h];rfl
theorem Tryz.infoRefS:(Tryz.prog.info? 62).map (fun i=>(i.zero,i.size,i.bytes))=some (some (.int .u32 0),1,4):=by kernel_rfl
theorem ty_ne {w:World} {b1 b2:Nat} {e1 e2:TypeId} {z1 z2 n1 n2:Nat} {v1 v2:Value} {xs ys:List Value} (h1:w.ownsRow b1 e1 z1 v1 n1 xs) (h2:w.ownsRow b2 e2 z2 v2 n2 ys) (hne:e1≠e2) {k:Nat} (k1:v1.ownBlock=some k) (k2:v2.ownBlock=some k):False:=by
 obtain ⟨c1,f1,a1⟩:=row_type h1 k1;obtain ⟨c2,f2,a2⟩:=row_type h2 k2;rw [a1] at a2
 injection a2 with a2;injection a2 with _ a2 _;exact hne a2
theorem blk_ne {w:World} {b1:Nat} {e1 e2:TypeId} {z1 n1 k:Nat} {v1:Value} {xs:List Value} {cs:Array Value} {fr:Nat × Nat} (h1:w.ownsRow b1 e1 z1 v1 n1 xs) (h2:w.heap[k]?=some (.cells cs e2 fr)) (hne:e1≠e2):v1.ownBlock≠some k:=fun k1=>by
 obtain ⟨c1,f1,a1⟩:=row_type h1 k1;rw [a1] at h2
 injection h2 with a2;injection a2 with _ a2 _;exact hne a2
theorem row_grow {w5 y w6:World} {o:Option Nat} {b:Nat} {e:TypeId} {sz n:Nat} {v:Value} {xs:List Value} (u:Upd [] w5 y) (g:y.grownBy w6 o) (h:w5.ownsRow b e sz v n xs) (hne:∀ k,v.ownBlock=some k->o=some k->False):w6.ownsRow b e sz v n xs :=
 row_keep h fun k hk=>(g.block k (Nat.lt_of_lt_of_le (h.lt k hk).2 u.size) (fun e=>hne k hk e.symm)).trans (u.block k (h.lt k hk).2 (by simp))
theorem app_at {w y:World} {S:List Nat} {o:Option Nat} {g:Nat} (u:Upd S w y) (h:o=some g\/g=y.heap.size):o=some g\/w.heap.size<=g:=h.imp id fun e=>by rw [e];exact u.size
end Go.Proofs.YtlkgkojidclncaaGreat
