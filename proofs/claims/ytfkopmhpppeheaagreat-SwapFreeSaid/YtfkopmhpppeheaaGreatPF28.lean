import Derived.Test.YtfkopmhpppeheaaGreatPF1
import Derived.Test.YtfkopmhpppeheaaGreatPF24
import Derived.Test.YtfkopmhpppeheaaGreatPF25
import Derived.Test.YtfkopmhpppeheaaGreatPF26
import Derived.Test.YtfkopmhpppeheaaGreatPF27
import Derived.Sort.Grow
import Derived.Sort.LotD3
import Derived.Sort.LotD4
import Derived.Sort.LotB
import Derived.Deep.Cut
import Derived.Sort.Row
import Derived.Sort.AssemblyPlain
namespace Go.Sort
variable {α : Type} [Inhabited α]
def At (enc:α->Value) (w:World) (blk off:Nat) (d:Array α) (wr:World):Prop:=∃ n os,wr=grow (putRow enc (ahead w n) blk off d) os
section
variable {enc:α->Value} {w wr w1:World} {blk off:Nat} {d d' d0:Array α}
theorem At.refl (h:Holds enc w blk off d):At enc w blk off d w:=⟨0,#[],by rw [grow_empty,ahead_zero,putRow_self enc w blk off d h]⟩
theorem At.holds (h:At enc w blk off d wr) (h0:Holds enc w blk off d0) (hs:d.size=d0.size) (hb:blk<w.heap.size):Holds enc wr blk off d/\blk<wr.heap.size:=by
 obtain ⟨n,os,rfl⟩:=h;exact ⟨holds_grow enc _ os blk off d (by simpa using hb) (holds_putRow enc _ blk off d0 d (holds_ahead enc w n blk off d0 h0) hs),by simp;omega⟩
theorem At.step (h:At enc w blk off d wr) (hb:blk<w.heap.size) (hs:d'.size=d.size) (h1:∃ m,w1=putRow enc (ahead wr m) blk off d'):At enc w blk off d' w1:=by
 obtain ⟨n,os,rfl⟩:=h;obtain ⟨m,rfl⟩:=h1;exact ⟨n+m,os,grow_step enc w os n m blk off d d' hb hs⟩
theorem At.stepG (h:At enc w blk off d wr) (hb:blk<w.heap.size) (hs:d'.size=d.size) (h1:∃ m os',w1=grow (putRow enc (ahead wr m) blk off d') os'):At enc w blk off d' w1:=by
 obtain ⟨n,os,rfl⟩:=h;obtain ⟨m,os',rfl⟩:=h1;exact ⟨n+m,os++os',grow_step_grow enc w os os' n m blk off d d' hb hs⟩
theorem At.same (h:At enc w blk off d wr) (h0:Holds enc w blk off d0) (hs:d.size=d0.size) (hb:blk<w.heap.size) (h1:∃ m os',w1=grow (ahead wr m) os'):At enc w blk off d w1:=by
 obtain ⟨m,os',rfl⟩:=h1;refine h.stepG hb rfl ⟨m,os',?_⟩;rw [putRow_self enc (ahead wr m) blk off d (holds_ahead enc wr m blk off d (h.holds h0 hs hb).1)]
theorem At.ahead (h:At enc w blk off d wr) (m:Nat):At enc w blk off d (ahead wr m):=by
 obtain ⟨n,os,rfl⟩:=h;exact ⟨n+m,os,by rw [<- ahead_ahead];rfl⟩
end
section
variable (lt:α->α->Bool)
structure Rd (α : Type) where
 d1:Array α
 lim:Nat
 c:Nat × Hint
 d2:Array α
 pivot:Nat
 hint:Hint
 pi:Array α × Bool
def rd (d:Array α) (a b limit:Nat) (wb wp:Bool):Rd α :=
  let d1:=if !wb then breakPatterns d a b else d
  let c:=choosePivot lt d1 a b
  let d2:=if c.2=.decreasing then reverseRange d1 a b else d1
  let hint:=if c.2=.decreasing then Hint.increasing else c.2
  { d1:=d1,lim:=if !wb then limit - 1 else limit,c:=c,d2:=d2,pivot:=if c.2=.decreasing then (b - 1) - (c.1 - a) else c.1,hint:=hint,
    pi:=if wb && wp && hint=.increasing then partialInsertionSort lt d2 a b else (d2,false) }
variable {lt} {d:Array α} {a b limit:Nat} {wb wp:Bool}
theorem pdq_unfold:pdq lt d a b limit wb wp =
  if b-a<=12 then insertionSort lt d a b else
  if limit=0 then heapSort lt d a b else
  if (rd lt d a b limit wb wp).pi.2=true then (rd lt d a b limit wb wp).pi.1 else
  if (decide (a > 0)&&!lt (rd lt d a b limit wb wp).pi.1[a-1]! (rd lt d a b limit wb wp).pi.1[(rd lt d a b limit wb wp).pivot]!)=true then
   (if a<(partitionEqual lt (rd lt d a b limit wb wp).pi.1 a b (rd lt d a b limit wb wp).pivot).1/\(partitionEqual lt (rd lt d a b limit wb wp).pi.1 a b (rd lt d a b limit wb wp).pivot).1<=b then pdq lt (partitionEqual lt (rd lt d a b limit wb wp).pi.1 a b (rd lt d a b limit wb wp).pivot).2 (partitionEqual lt (rd lt d a b limit wb wp).pi.1 a b (rd lt d a b limit wb wp).pivot).1 b (rd lt d a b limit wb wp).lim wb wp else (partitionEqual lt (rd lt d a b limit wb wp).pi.1 a b (rd lt d a b limit wb wp).pivot).2)
  else
   (if a<=(partition lt (rd lt d a b limit wb wp).pi.1 a b (rd lt d a b limit wb wp).pivot).1/\(partition lt (rd lt d a b limit wb wp).pi.1 a b (rd lt d a b limit wb wp).pivot).1<b then
    (if (partition lt (rd lt d a b limit wb wp).pi.1 a b (rd lt d a b limit wb wp).pivot).1-a<b-(partition lt (rd lt d a b limit wb wp).pi.1 a b (rd lt d a b limit wb wp).pivot).1 then
     pdq lt (pdq lt (partition lt (rd lt d a b limit wb wp).pi.1 a b (rd lt d a b limit wb wp).pivot).2.2 a (partition lt (rd lt d a b limit wb wp).pi.1 a b (rd lt d a b limit wb wp).pivot).1 (rd lt d a b limit wb wp).lim true true) ((partition lt (rd lt d a b limit wb wp).pi.1 a b (rd lt d a b limit wb wp).pivot).1+1) b (rd lt d a b limit wb wp).lim (decide ((partition lt (rd lt d a b limit wb wp).pi.1 a b (rd lt d a b limit wb wp).pivot).1-a ≥ (b-a)/8)) (partition lt (rd lt d a b limit wb wp).pi.1 a b (rd lt d a b limit wb wp).pivot).2.1
    else
     pdq lt (pdq lt (partition lt (rd lt d a b limit wb wp).pi.1 a b (rd lt d a b limit wb wp).pivot).2.2 ((partition lt (rd lt d a b limit wb wp).pi.1 a b (rd lt d a b limit wb wp).pivot).1+1) b (rd lt d a b limit wb wp).lim true true) a (partition lt (rd lt d a b limit wb wp).pi.1 a b (rd lt d a b limit wb wp).pivot).1 (rd lt d a b limit wb wp).lim (decide (b-(partition lt (rd lt d a b limit wb wp).pi.1 a b (rd lt d a b limit wb wp).pivot).1 ≥ (b-a)/8)) (partition lt (rd lt d a b limit wb wp).pi.1 a b (rd lt d a b limit wb wp).pivot).2.1)
   else (partition lt (rd lt d a b limit wb wp).pi.1 a b (rd lt d a b limit wb wp).pivot).2.2):=by
 rw [pdq];rfl
theorem pdq_small (h:b-a<=12):pdq lt d a b limit wb wp=insertionSort lt d a b:=by rw [pdq_unfold,if_pos h]
theorem pdq_heap (h:¬ b-a<=12) (h0:limit=0):pdq lt d a b limit wb wp=heapSort lt d a b:=by rw [pdq_unfold,if_neg h,if_pos h0]
theorem pdq_done (h:¬ b-a<=12) (h0:¬ limit=0) (h1:(rd lt d a b limit wb wp).pi.2=true):pdq lt d a b limit wb wp=(rd lt d a b limit wb wp).pi.1:=by rw [pdq_unfold,if_neg h,if_neg h0,if_pos h1]
theorem pdq_eq (h:¬ b-a<=12) (h0:¬ limit=0) (h1:(rd lt d a b limit wb wp).pi.2=false) (h2:(decide (a > 0)&&!lt (rd lt d a b limit wb wp).pi.1[a-1]! (rd lt d a b limit wb wp).pi.1[(rd lt d a b limit wb wp).pivot]!)=true) (h3:a<(partitionEqual lt (rd lt d a b limit wb wp).pi.1 a b (rd lt d a b limit wb wp).pivot).1/\(partitionEqual lt (rd lt d a b limit wb wp).pi.1 a b (rd lt d a b limit wb wp).pivot).1<=b) :
  pdq lt d a b limit wb wp=pdq lt (partitionEqual lt (rd lt d a b limit wb wp).pi.1 a b (rd lt d a b limit wb wp).pivot).2 (partitionEqual lt (rd lt d a b limit wb wp).pi.1 a b (rd lt d a b limit wb wp).pivot).1 b (rd lt d a b limit wb wp).lim wb wp:=by
 rw [pdq_unfold,if_neg h,if_neg h0,if_neg (by rw [h1];exact Bool.false_ne_true),if_pos h2,if_pos h3]
theorem pdq_left (h:¬ b-a<=12) (h0:¬ limit=0) (h1:(rd lt d a b limit wb wp).pi.2=false) (h2:(decide (a > 0)&&!lt (rd lt d a b limit wb wp).pi.1[a-1]! (rd lt d a b limit wb wp).pi.1[(rd lt d a b limit wb wp).pivot]!)=false) (h3:a<=(partition lt (rd lt d a b limit wb wp).pi.1 a b (rd lt d a b limit wb wp).pivot).1/\(partition lt (rd lt d a b limit wb wp).pi.1 a b (rd lt d a b limit wb wp).pivot).1<b) (h4:(partition lt (rd lt d a b limit wb wp).pi.1 a b (rd lt d a b limit wb wp).pivot).1-a<b-(partition lt (rd lt d a b limit wb wp).pi.1 a b (rd lt d a b limit wb wp).pivot).1) :
  pdq lt d a b limit wb wp=pdq lt (pdq lt (partition lt (rd lt d a b limit wb wp).pi.1 a b (rd lt d a b limit wb wp).pivot).2.2 a (partition lt (rd lt d a b limit wb wp).pi.1 a b (rd lt d a b limit wb wp).pivot).1 (rd lt d a b limit wb wp).lim true true) ((partition lt (rd lt d a b limit wb wp).pi.1 a b (rd lt d a b limit wb wp).pivot).1+1) b (rd lt d a b limit wb wp).lim (decide ((partition lt (rd lt d a b limit wb wp).pi.1 a b (rd lt d a b limit wb wp).pivot).1-a ≥ (b-a)/8)) (partition lt (rd lt d a b limit wb wp).pi.1 a b (rd lt d a b limit wb wp).pivot).2.1:=by
 rw [pdq_unfold,if_neg h,if_neg h0,if_neg (by rw [h1];exact Bool.false_ne_true),if_neg (by rw [h2];exact Bool.false_ne_true),if_pos h3,if_pos h4]
theorem pdq_right (h:¬ b-a<=12) (h0:¬ limit=0) (h1:(rd lt d a b limit wb wp).pi.2=false) (h2:(decide (a > 0)&&!lt (rd lt d a b limit wb wp).pi.1[a-1]! (rd lt d a b limit wb wp).pi.1[(rd lt d a b limit wb wp).pivot]!)=false) (h3:a<=(partition lt (rd lt d a b limit wb wp).pi.1 a b (rd lt d a b limit wb wp).pivot).1/\(partition lt (rd lt d a b limit wb wp).pi.1 a b (rd lt d a b limit wb wp).pivot).1<b) (h4:¬ (partition lt (rd lt d a b limit wb wp).pi.1 a b (rd lt d a b limit wb wp).pivot).1-a<b-(partition lt (rd lt d a b limit wb wp).pi.1 a b (rd lt d a b limit wb wp).pivot).1) :
  pdq lt d a b limit wb wp=pdq lt (pdq lt (partition lt (rd lt d a b limit wb wp).pi.1 a b (rd lt d a b limit wb wp).pivot).2.2 ((partition lt (rd lt d a b limit wb wp).pi.1 a b (rd lt d a b limit wb wp).pivot).1+1) b (rd lt d a b limit wb wp).lim true true) a (partition lt (rd lt d a b limit wb wp).pi.1 a b (rd lt d a b limit wb wp).pivot).1 (rd lt d a b limit wb wp).lim (decide (b-(partition lt (rd lt d a b limit wb wp).pi.1 a b (rd lt d a b limit wb wp).pivot).1 ≥ (b-a)/8)) (partition lt (rd lt d a b limit wb wp).pi.1 a b (rd lt d a b limit wb wp).pivot).2.1:=by
 rw [pdq_unfold,if_neg h,if_neg h0,if_neg (by rw [h1];exact Bool.false_ne_true),if_neg (by rw [h2];exact Bool.false_ne_true),if_pos h3,if_neg h4]
theorem rd_dec (hh:(rd lt d a b limit wb wp).c.2=.decreasing) :
  (rd lt d a b limit wb wp).d2=reverseRange (rd lt d a b limit wb wp).d1 a b/\(rd lt d a b limit wb wp).pivot=(b-1)-((rd lt d a b limit wb wp).c.1-a)/\(rd lt d a b limit wb wp).hint=.increasing:=⟨if_pos hh,if_pos hh,if_pos hh⟩
theorem rd_not (hh:(rd lt d a b limit wb wp).c.2≠.decreasing) :
  (rd lt d a b limit wb wp).d2=(rd lt d a b limit wb wp).d1/\(rd lt d a b limit wb wp).pivot=(rd lt d a b limit wb wp).c.1/\(rd lt d a b limit wb wp).hint=(rd lt d a b limit wb wp).c.2:=⟨if_neg hh,if_neg hh,if_neg hh⟩
theorem rd_pi_yes (hc:(wb&&wp&&decide ((rd lt d a b limit wb wp).hint=.increasing))=true):(rd lt d a b limit wb wp).pi=partialInsertionSort lt (rd lt d a b limit wb wp).d2 a b:=if_pos hc
theorem rd_pi_no (hc:(wb&&wp&&decide ((rd lt d a b limit wb wp).hint=.increasing))=false):(rd lt d a b limit wb wp).pi=((rd lt d a b limit wb wp).d2,false):=if_neg (fun h=>Bool.false_ne_true (hc.symm.trans h))
theorem rd_lim_le:(rd lt d a b limit wb wp).lim<=limit:=by
 show (if (!wb)=true then limit-1 else limit)<=limit
 split <;> omega
theorem rd_facts (h:SWO lt) (hpi:partialInsertionSort_stmt lt) (hrev:reverseRange_stmt α) (hab:a<b) (hb:b<=d.size) (hB:Below lt a b d) :
  (rd lt d a b limit wb wp).d1.size=d.size/\Below lt a b (rd lt d a b limit wb wp).d1/\(a<=(rd lt d a b limit wb wp).c.1/\(rd lt d a b limit wb wp).c.1<b) /\
  (rd lt d a b limit wb wp).d2.size=d.size/\Below lt a b (rd lt d a b limit wb wp).d2/\(a<=(rd lt d a b limit wb wp).pivot/\(rd lt d a b limit wb wp).pivot<b) /\
  (rd lt d a b limit wb wp).pi.1.size=d.size/\Below lt a b (rd lt d a b limit wb wp).pi.1:=by
 have p1:PermIn a b d (rd lt d a b limit wb wp).d1:=step_break d (Nat.le_of_lt hab) hb ((!wb)=true);have s1:=p1.1;have B1:=hB.perm hb p1;have c1:a<=(rd lt d a b limit wb wp).c.1/\(rd lt d a b limit wb wp).c.1<b:=choosePivot_holds lt (rd lt d a b limit wb wp).d1 a b hab;have p2:PermIn a b (rd lt d a b limit wb wp).d1 (rd lt d a b limit wb wp).d2:=step_reverse hrev (rd lt d a b limit wb wp).d1 (Nat.le_of_lt hab) (by rw [s1];exact hb) ((rd lt d a b limit wb wp).c.2=.decreasing);have s2:=p2.1.trans s1;have B2:=B1.perm (by rw [s1];exact hb) p2;have pv:a<=(rd lt d a b limit wb wp).pivot/\(rd lt d a b limit wb wp).pivot<b:=pivot_range c1.1 c1.2 ((rd lt d a b limit wb wp).c.2=.decreasing);have p3:PermIn a b (rd lt d a b limit wb wp).d2 (rd lt d a b limit wb wp).pi.1:=(step_partial hpi h (rd lt d a b limit wb wp).d2 hab (by rw [s2];exact hb) B2 ((wb&&wp&&decide ((rd lt d a b limit wb wp).hint=.increasing))=true)).1;exact ⟨s1,B1,c1,s2,B2,pv,p3.1.trans s2,B2.perm (by rw [s2];exact hb) p3⟩
end
end Go.Sort
namespace Go.Proofs.YtfkopmhpppeheaaGreat.Srt
open Go.Sort Go.RowKit
structure Callees13:Prop where
 ins:∀ (blk off cap a b:Nat) (d:Array Int) (w:World),Holds (Value.int .u32) w blk off d->a<=b->b<=d.size->d.size<4611686018427387904 ->
  Calls Tryz.prog 254 #[.slice (some ⟨blk,off,none⟩) d.size cap,.int .i64 a,.int .i64 b] w fun e w'=>e=.returned (.tuple #[])/\∃ n,w'=putRow (Value.int .u32) (Sort.ahead w n) blk off (insertionSort ltInt d a b)
 brk:∀ (blk off cap a b:Nat) (d:Array Int) (w:World),Holds (Value.int .u32) w blk off d->blk<w.heap.size->a<=b->b<=d.size->d.size<4611686018427387904 ->
  Calls Tryz.prog 256 #[.slice (some ⟨blk,off,none⟩) d.size cap,.int .i64 a,.int .i64 b] w fun e w'=>e=.returned (.tuple #[])/\∃ n os,w'=grow (putRow (Value.int .u32) (Sort.ahead w n) blk off (breakPatterns d a b)) os
 piv:∀ (blk off cap a b:Nat) (d:Array Int) (w:World),Holds (Value.int .u32) w blk off d->blk<w.heap.size->a<b->b<=d.size->d.size<4611686018427387904 ->
  Calls Tryz.prog 257 #[.slice (some ⟨blk,off,none⟩) d.size cap,.int .i64 a,.int .i64 b] w fun e w'=>e=.returned (.tuple #[.int .i64 (choosePivot ltInt d a b).1,.int .i64 (hintCode (choosePivot ltInt d a b).2)])/\∃ n os,w'=grow (Sort.ahead w n) os
 par:∀ (blk off cap a b:Nat) (d:Array Int) (w:World),Holds (Value.int .u32) w blk off d->a<b->b<=d.size->d.size<4611686018427387904 ->
  Calls Tryz.prog 259 #[.slice (some ⟨blk,off,none⟩) d.size cap,.int .i64 a,.int .i64 b] w fun e w'=>e=.returned (.bool (partialInsertionSort ltInt d a b).2)/\∃ n,w'=putRow (Value.int .u32) (Sort.ahead w n) blk off (partialInsertionSort ltInt d a b).1
 peq:∀ (blk off cap a b pivot:Nat) (d:Array Int) (w:World),Holds (Value.int .u32) w blk off d->a<=pivot->pivot<b->b<=d.size->d.size<4611686018427387904 ->
  Calls Tryz.prog 261 #[.slice (some ⟨blk,off,none⟩) d.size cap,.int .i64 a,.int .i64 b,.int .i64 pivot] w fun e w'=>e=.returned (.int .i64 (partitionEqual ltInt d a b pivot).1)/\∃ n,w'=putRow (Value.int .u32) (Sort.ahead w n) blk off (partitionEqual ltInt d a b pivot).2
 prt:∀ (blk off cap a b pivot:Nat) (d:Array Int) (w:World),Holds (Value.int .u32) w blk off d->a<=pivot->pivot<b->b<=d.size->d.size<4611686018427387904 ->
  Calls Tryz.prog 262 #[.slice (some ⟨blk,off,none⟩) d.size cap,.int .i64 a,.int .i64 b,.int .i64 pivot] w fun e w'=>e=.returned (.tuple #[.int .i64 (partition ltInt d a b pivot).1,.bool (partition ltInt d a b pivot).2.1])/\∃ n,w'=putRow (Value.int .u32) (Sort.ahead w n) blk off (partition ltInt d a b pivot).2.2
structure Plain13:Prop where
 swo:SWO ltInt
 ins:insertionSort_stmt ltInt
 par:partialInsertionSort_stmt ltInt
 prt:partition_stmt ltInt
 peq:partitionEqual_stmt ltInt
 pdq:pdq_stmt ltInt
theorem hintCode_two {h:Hint} (e:hintCode h=2):h=.decreasing:=by cases h <;> simp [hintCode] at e ⊢
theorem eighth {x y p q:Nat} (h1:q<=p) (h2:y<=x):decide (((x:Int)-(y:Int))/8<=(p:Int)-(q:Int))=decide (p-q ≥ (x-y)/8) :=
 decide_eq_decide.2 ⟨fun h=>by omega,fun h=>by omega⟩
set_option maxHeartbeats 6400000 in
set_option maxRecDepth 1000000 in
theorem SoR.pdqsort_int (C:Callees13) (S:Plain13):∀ (N blk off cap a b limit:Nat) (d:Array Int) (w:World),b - a < N→Holds (Value.int .u32) w blk off d→blk < w.heap.size→a≤b→b≤d.size→d.size < 4611686018427387904→limit < 4611686018427387904→Below ltInt a b d →
    Calls Tryz.prog 252 #[.slice (some ⟨blk,off,none⟩) d.size cap,.int .i64 a,.int .i64 b,.int .i64 limit] w fun e w'=>e=.returned (.tuple #[])∧At (Value.int .u32) w blk off (pdq ltInt d a b limit true true) w':=by
  intro N
  induction N with
  | zero=>intro _ _ _ _ _ _ _ _ h; exact absurd h (Nat.not_lt_zero _)
  | succ N ih =>
    intro blk off cap a b limit d w hN hH hblk hab hb hsz hlimit hBel0
    go_enter Tryz.func252,Tryz.ntmps252
    go_wp2
    go_loopg [1,2,3,8,9] (b - a) (fun k s1 s2 s3 s8 s9 wr=>∃ (a' b' lim:Nat) (wb wp:Bool) (dk:Array Int),s1=.int .i64 a'∧s2=.int .i64 b'∧s3=.int .i64 lim∧s8=.bool wb∧s9=.bool wp ∧
      a'≤b'∧b'≤d.size∧b' - a'≤k∧k≤b - a∧lim≤limit∧dk.size=d.size∧Below ltInt a' b' dk∧At (Value.int .u32) w blk off dk wr∧pdq ltInt dk a' b' lim wb wp=pdq ltInt d a b limit true true)
    case atStart=>exact ⟨a,b,limit,true,true,d,rfl,rfl,rfl,rfl,rfl,hab,hb,Nat.le_refl _,Nat.le_refl _,Nat.le_refl _,rfl,hBel0,At.refl hH,rfl⟩
    case round =>
      obtain ⟨a',b',lim,wb,wp,dk,rfl,rfl,rfl,rfl,rfl,hab',hb',hk,hkN,hlim,hds,hBel,hAt,heq⟩:=hrel;obtain ⟨hHk,hblk'⟩:=hAt.holds hH hds hblk;have A:Aside (pdq ltInt dk a' b' lim wb wp=pdq ltInt d a b limit true true):=heq;clear heq
      by_cases h12:b' - a'≤12
      · -- 'if length <= maxInsertion'
        have h12z:(b':Int) - (a':Int)≤12:=by omega
        have hc:=C.ins blk off cap a' b' dk wr hHk hab' (by omega) (by omega);rw [hds] at hc
        go_wp2_with (go_at_call 254; refine hc.mono ?_; rintro e w1 ⟨rfl,hw1⟩)
        (try simp only [Exit.inBlock,Exit.then]); refine bodyPost_ret (results_none rfl _ _ _) rfl ?_
        refine ⟨rfl,?_⟩;rw [← A.out,pdq_small h12];exact hAt.step hblk (S.ins S.swo dk a' b' hab' (by omega)).1.1 hw1
      · have h12z:¬ ((b':Int) - (a':Int)≤12):=by omega
        by_cases hl0:lim=0
        · -- 'if limit == 0'
          subst hl0;have hc:=SoR.heapSort_int blk off d.size cap dk hds a' b' wr hHk hab' (by omega) (by omega)
          go_wp2_with (go_at_call 255; refine hc.mono ?_; rintro e w1 ⟨rfl,hw1⟩)
          (try simp only [Exit.inBlock,Exit.then]); refine bodyPost_ret (results_none rfl _ _ _) rfl ?_
          refine ⟨rfl,?_⟩;rw [← A.out,pdq_heap h12 rfl];exact hAt.step hblk (heapSort_holds S.swo dk a' b' hab' (by omega)).1.1 hw1
        · have hl0z:¬ ((lim:Int)=0):=by omega
          obtain ⟨s1,B1,hc1,s2,B2,hpv,s3,B3⟩:=rd_facts (limit:=lim) (wb:=wb) (wp:=wp) S.swo S.par reverseRange_holds (show a' < b' by omega) (show b'≤dk.size by omega) hBel;go_upto_if 35 with fail
          go_cut [3] from 19 (fun s3 wc=>s3=.int .i64 (rd ltInt dk a' b' lim wb wp).lim∧At (Value.int .u32) w blk off (rd ltInt dk a' b' lim wb wp).d1 wc)
          case first =>
            cases wb
            · have hc:=C.brk blk off cap a' b' dk wr hHk hblk' hab' (by omega) (by omega)
              rw [hds] at hc
              go_wp2_with (go_at_call 256; refine hc.mono ?_; rintro e w1 ⟨rfl,hw1⟩)
              go_meet
              case rel =>
                refine ⟨?_,hAt.stepG hblk s1 hw1⟩
                show Value.int .i64 ((lim:Int) - 1)=Value.int .i64 ((lim - 1:Nat):Int)
                congr 1
                omega
            · go_wp2_with fail
              go_meet
              case rel=>exact ⟨rfl,hAt⟩
          case rest =>
            obtain ⟨rfl,hAt1⟩:=hcut;obtain ⟨hH1,hblk1⟩:=hAt1.holds hH (s1.trans hds) hblk
            have hc17:Calls Tryz.prog 257 #[.slice (some ⟨blk,off,none⟩) d.size cap,.int .i64 a',.int .i64 b'] wc fun e w'=>e=.returned (.tuple #[.int .i64 (rd ltInt dk a' b' lim wb wp).c.1,.int .i64 (hintCode (rd ltInt dk a' b' lim wb wp).c.2)])∧∃ n os,w'=grow (Sort.ahead wc n) os:=by
              have:=C.piv blk off cap a' b' (rd ltInt dk a' b' lim wb wp).d1 wc hH1 hblk1 (by omega) (by omega) (by omega);rw [s1,hds] at this;exact this
            go_upto_if 50 with (go_at_call 257; refine hc17.mono ?_; rintro e w2 ⟨rfl,hw2⟩)
            have hAt2:At (Value.int .u32) w blk off (rd ltInt dk a' b' lim wb wp).d1 w2:=hAt1.same hH (s1.trans hds) hblk hw2;obtain ⟨hH2,hblk2⟩:=hAt2.holds hH (s1.trans hds) hblk
            go_cut [11,12] from 19 (fun s11 s12 wc=>s11=.int .i64 (rd ltInt dk a' b' lim wb wp).pivot∧s12=.int .i64 (hintCode (rd ltInt dk a' b' lim wb wp).hint)∧At (Value.int .u32) w blk off (rd ltInt dk a' b' lim wb wp).d2 wc)
            case first =>
              by_cases hh:(rd ltInt dk a' b' lim wb wp).c.2=.decreasing
              · have hcode:hintCode (rd ltInt dk a' b' lim wb wp).c.2=2:=by rw [hh]; rfl
                obtain ⟨e2,epv,eht⟩:=rd_dec hh;have hc18:=SoR.reverseRange_int blk off cap (rd ltInt dk a' b' lim wb wp).d1 a' b' w2 hH2 hab' (by omega) (by omega);rw [s1,hds] at hc18
                go_wp2_with (go_at_call 258; refine hc18.mono ?_; rintro e w3 ⟨rfl,hw3⟩)
                go_meet
                case rel =>
                  refine ⟨?_,by rw [eht]; rfl,by rw [e2]; exact hAt2.step hblk (by rw [← e2,s2,s1]) hw3⟩;rw [epv]
                  congr 1
                  omega
              · have hcode:¬ (hintCode (rd ltInt dk a' b' lim wb wp).c.2=2):=fun h=>hh (hintCode_two h)
                obtain ⟨e2,epv,eht⟩:=rd_not hh;go_wp2_with fail;go_meet
                case rel=>exact ⟨by rw [epv],by rw [eht],by rw [e2]; exact hAt2⟩
            case rest =>
              obtain ⟨rfl,rfl,hAt3⟩:=hcut;obtain ⟨hH3,hblk3⟩:=hAt3.holds hH (s2.trans hds) hblk;go_upto_region 15 with fail
              go_cut [12,68] from 19 (fun s12 s68 wx=>s12=.int .i64 (hintCode (rd ltInt dk a' b' lim wb wp).hint)∧s68=.bool (wb && wp && decide ((rd ltInt dk a' b' lim wb wp).hint=.increasing))∧wx=wc)
              case first =>
                cases wb <;> cases wp <;> cases hh3:(rd ltInt dk a' b' lim _ _).hint <;>
                  (have hcode3:=congrArg hintCode hh3
                   simp only [hintCode] at hcode3
                   go_wp2_with fail;go_meet
                   exact ⟨by simp [hh3,hintCode],by simp [hh3,hintCode],rfl⟩)
              case rest =>
                obtain ⟨rfl,rfl,rfl⟩:=hcut;go_upto_if 68 with fail
                go_cut [] from 19 (fun wx=>(rd ltInt dk a' b' lim wb wp).pi.2=false∧At (Value.int .u32) w blk off (rd ltInt dk a' b' lim wb wp).pi.1 wx)
                case first =>
                  cases h68:(wb && wp && decide ((rd ltInt dk a' b' lim wb wp).hint=.increasing))
                  · have epi:=rd_pi_no h68
                    go_wp2_with fail;go_meet
                    case rel=>exact ⟨by rw [epi],by rw [epi]; exact hAt3⟩
                  · have epi:=rd_pi_yes h68
                    have hc19:=C.par blk off cap a' b' (rd ltInt dk a' b' lim wb wp).d2 wc hH3 (by omega) (by omega) (by omega);rw [s2,hds,← epi] at hc19
                    go_wp2_with (go_at_call 259; refine hc19.mono ?_; rintro e w4 ⟨rfl,hw4⟩)
                    all_goals first
                      | (have hp2:(rd ltInt dk a' b' lim wb wp).pi.2=false:=by rw [epi]; assumption
                         go_meet
                         exact ⟨hp2,hAt3.step hblk (by rw [s3,s2]) hw4⟩)
                      | (have hp2:(rd ltInt dk a' b' lim wb wp).pi.2=true:=by rw [epi]; assumption
                         (try simp only [Exit.inBlock,Exit.then]); refine bodyPost_ret (results_none rfl _ _ _) rfl ?_
                         refine ⟨rfl,?_⟩;rw [← A.out,pdq_done h12 hl0 hp2]
                         exact hAt3.step hblk (by rw [s3,s2]) hw4)
                case rest =>
                  obtain ⟨hp2,hAt5⟩:=hcut;obtain ⟨hH5,hblk5⟩:=hAt5.holds hH (s3.trans hds) hblk
                  have hcw:∀ t,t < d.size→wc.cell? ⟨blk,off + t,none⟩=some (.int .u32 (rd ltInt dk a' b' lim wb wp).pi.1[t]!):=fun t ht=>(hH5 t (by omega)).1
                  have hfw:∀ t,t < d.size→wc.frozen? ⟨blk,off + t,none⟩=false:=fun t ht=>(hH5 t (by omega)).2
                  go_upto_region 17 with fail
                  go_cut [87] from 19 (fun s87 wx=>s87=.bool (decide (a' > 0) && !ltInt (rd ltInt dk a' b' lim wb wp).pi.1[a' - 1]! (rd ltInt dk a' b' lim wb wp).pi.1[(rd ltInt dk a' b' lim wb wp).pivot]!)∧At (Value.int .u32) w blk off (rd ltInt dk a' b' lim wb wp).pi.1 wx)
                  case first =>
                    rcases Nat.eq_zero_or_pos a' with ha0 | ha0
                    · have ha0z:decide ((a':Int) > 0)=false:=decide_eq_false (by omega)
                      go_big_quiet (first | (go_at_call 260; refine Calls.quiet_of_same (SoR.cmp_Less_int _ _ _)))
                      go_wp2_with fail;go_meet
                      case rel=>exact ⟨by simp [ha0],hAt5.ahead nq⟩
                    · have ha0z:(a':Int) > 0:=by omega
                      go_big_quiet (first | (go_at_call 260; refine Calls.quiet_of_same (SoR.cmp_Less_int _ _ _)))
                      go_wp2_with fail;go_meet
                      case rel=>exact ⟨by simp [ha0],hAt5.ahead nq⟩
                  case rest =>
                    obtain ⟨rfl,hAt6⟩:=hcut;obtain ⟨hH6,hblk6⟩:=hAt6.holds hH (s3.trans hds) hblk;clear hcw hfw;cases h87:(decide (a' > 0) && !ltInt (rd ltInt dk a' b' lim wb wp).pi.1[a' - 1]! (rd ltInt dk a' b' lim wb wp).pi.1[(rd ltInt dk a' b' lim wb wp).pivot]!)
                    · -- ████ 'mid,alreadyPartitioned:=partitionOrdered(..)'; THE SMALLER SIDE BY A CALL OF ITSELF,the other by the next round
                      obtain ⟨mid,ap,d4,hx⟩ : ∃ mid ap d4,partition ltInt (rd ltInt dk a' b' lim wb wp).pi.1 a' b' (rd ltInt dk a' b' lim wb wp).pivot=(mid,ap,d4):=⟨(partition ltInt (rd ltInt dk a' b' lim wb wp).pi.1 a' b' (rd ltInt dk a' b' lim wb wp).pivot).1,(partition ltInt (rd ltInt dk a' b' lim wb wp).pi.1 a' b' (rd ltInt dk a' b' lim wb wp).pivot).2.1,(partition ltInt (rd ltInt dk a' b' lim wb wp).pi.1 a' b' (rd ltInt dk a' b' lim wb wp).pivot).2.2,rfl⟩;obtain ⟨r1,r2,r3,r4,r5,r6,r7⟩:=round_part S.swo S.prt hpv.1 hpv.2 (show b'≤(rd ltInt dk a' b' lim wb wp).pi.1.size by omega) B3 hx;have hc22:=C.prt blk off cap a' b' (rd ltInt dk a' b' lim wb wp).pivot (rd ltInt dk a' b' lim wb wp).pi.1 wc hH6 hpv.1 hpv.2 (by omega) (by omega);rw [s3,hds,hx] at hc22;have X:Aside (partition ltInt (rd ltInt dk a' b' lim wb wp).pi.1 a' b' (rd ltInt dk a' b' lim wb wp).pivot=(mid,ap,d4)):=hx;clear hx
                      go_upto_if 113 with (go_at_call 262; refine hc22.mono ?_; rintro e w7 ⟨rfl,hw7⟩)
                      have hx:=X.out;have hAt7:At (Value.int .u32) w blk off d4 w7:=hAt6.step hblk r3 hw7;obtain ⟨hH7,hblk7⟩:=hAt7.holds hH (r3.trans (s3.trans hds)) hblk
                      by_cases h4:mid - a' < b' - mid
                      · have h4z:(mid:Int) - (a':Int) < (b':Int) - (mid:Int):=by omega
                        have hih:=ih blk off cap a' mid (rd ltInt dk a' b' lim wb wp).lim d4 w7 (by omega) hH7 hblk7 (by omega) (by omega) (by omega) (Nat.lt_of_le_of_lt (Nat.le_trans rd_lim_le hlim) hlimit) r4;rw [r3,s3,hds] at hih;obtain ⟨pL,sL⟩:=S.pdq S.swo d4 a' mid (rd ltInt dk a' b' lim wb wp).lim true true (by omega) (by omega) r4
                        go_wp2_with (go_at_call 252; refine hih.mono ?_; rintro e w8 ⟨rfl,hw8⟩)
                        go_roundg (b' - (mid + 1))
                        case measure=>omega
                        case rel =>
                          refine ⟨mid + 1,b',(rd ltInt dk a' b' lim wb wp).lim,decide (mid - a' ≥ (b' - a') / 8),ap,pdq ltInt d4 a' mid (rd ltInt dk a' b' lim wb wp).lim true true,by simp,rfl,rfl,?_,rfl,by omega,by omega,Nat.le_refl _,by omega,Nat.le_trans rd_lim_le hlim,by rw [pL.1,r3,s3,hds],(r6 _ pL sL).1,hAt7.stepG hblk pL.1 hw8,?_⟩
                          · exact congrArg Value.bool (eighth (by omega) (by omega))
                          · rw [← A.out,pdq_left h12 hl0 hp2 h87 (by rw [hx]; exact ⟨r1,r2⟩) (by rw [hx]; exact h4),hx]
                      · have h4z:¬ ((mid:Int) - (a':Int) < (b':Int) - (mid:Int)):=by omega
                        have hih:=ih blk off cap (mid + 1) b' (rd ltInt dk a' b' lim wb wp).lim d4 w7 (by omega) hH7 hblk7 (by omega) (by omega) (by omega) (Nat.lt_of_le_of_lt (Nat.le_trans rd_lim_le hlim) hlimit) r5;rw [r3,s3,hds] at hih;obtain ⟨pL,sL⟩:=S.pdq S.swo d4 (mid + 1) b' (rd ltInt dk a' b' lim wb wp).lim true true (by omega) (by omega) r5
                        go_wp2_with (go_at_call 252; refine hih.mono ?_; rintro e w8 ⟨rfl,hw8⟩)
                        go_roundg (mid - a')
                        case measure=>omega
                        case rel =>
                          refine ⟨a',mid,(rd ltInt dk a' b' lim wb wp).lim,decide (b' - mid ≥ (b' - a') / 8),ap,pdq ltInt d4 (mid + 1) b' (rd ltInt dk a' b' lim wb wp).lim true true,rfl,rfl,rfl,?_,rfl,by omega,by omega,Nat.le_refl _,by omega,Nat.le_trans rd_lim_le hlim,by rw [pL.1,r3,s3,hds],(r7 _ pL sL).1,hAt7.stepG hblk pL.1 hw8,?_⟩
                          · exact congrArg Value.bool (eighth (by omega) (by omega))
                          · rw [← A.out,pdq_right h12 hl0 hp2 h87 (by rw [hx]; exact ⟨r1,r2⟩) (by rw [hx]; exact h4),hx]
                    · -- ████ 'mid:=partitionEqualOrdered(..); a=mid; continue'
                      have h87':=h87
                      simp only [Bool.and_eq_true,decide_eq_true_eq,Bool.not_eq_true'] at h87'
                      obtain ⟨mid,d4,hx⟩ : ∃ mid d4,partitionEqual ltInt (rd ltInt dk a' b' lim wb wp).pi.1 a' b' (rd ltInt dk a' b' lim wb wp).pivot=(mid,d4):=⟨(partitionEqual ltInt (rd ltInt dk a' b' lim wb wp).pi.1 a' b' (rd ltInt dk a' b' lim wb wp).pivot).1,(partitionEqual ltInt (rd ltInt dk a' b' lim wb wp).pi.1 a' b' (rd ltInt dk a' b' lim wb wp).pivot).2,rfl⟩;obtain ⟨r1,r2,r3,r4,_⟩:=round_eq S.swo S.peq h87'.1 hpv.1 hpv.2 (show b'≤(rd ltInt dk a' b' lim wb wp).pi.1.size by omega) B3 h87'.2 hx;have hc21:=C.peq blk off cap a' b' (rd ltInt dk a' b' lim wb wp).pivot (rd ltInt dk a' b' lim wb wp).pi.1 wc hH6 hpv.1 hpv.2 (by omega) (by omega);rw [s3,hds,hx] at hc21;have X:Aside (partitionEqual ltInt (rd ltInt dk a' b' lim wb wp).pi.1 a' b' (rd ltInt dk a' b' lim wb wp).pivot=(mid,d4)):=hx;clear hx
                      go_wp2_with (go_at_call 261; refine hc21.mono ?_; rintro e w7 ⟨rfl,hw7⟩)
                      go_roundg (b' - mid)
                      case measure=>omega
                      case rel =>
                        have hx:=X.out;exact ⟨mid,b',(rd ltInt dk a' b' lim wb wp).lim,wb,wp,d4,rfl,rfl,rfl,rfl,rfl,r2,hb',Nat.le_refl _,by omega,Nat.le_trans rd_lim_le hlim,by rw [r3,s3,hds],r4,hAt6.step hblk r3 hw7,by rw [← A.out,pdq_eq h12 hl0 hp2 h87 (by rw [hx]; exact ⟨r1,r2⟩),hx]⟩
end Go.Proofs.YtfkopmhpppeheaaGreat.Srt
namespace Go.Proofs.YtfkopmhpppeheaaGreat
open Go.RowKit Go.Maps Go.ChangeMaps Go.WideShapes Go.Sort
namespace Srt
theorem callees13:Callees13 where
 ins:=SoR.insertionSort_int
 brk:=SoR.breakPatterns_int
 piv:=SoR.choosePivot_int
 par:=SoR.partialInsertionSort_int
 peq:=SoR.partitionEqualOrdered_int
 prt:=SoR.partitionOrdered_int
theorem plain13:Plain13 where
 swo:=swo_ltInt
 ins:=insertionSort_holds
 par:=partialInsertionSort_holds
 prt:=partition_holds _
 peq:=partitionEqual_holds _
 pdq:=pdq_sorts _
theorem pdqWalkInt:pdqWalk_int:=fun blk off cap a b limit d w hH hb hab hbd hsz hl hB =>
 SoR.pdqsort_int callees13 plain13 (b-a+1) blk off cap a b limit d w (by omega) hH hb hab hbd hsz hl hB
end Srt
theorem holds_of_blockR {w:World} {g:Nat} {cur:Array Value} {e:TypeId} {ss:List Int} (hb:w.heap[g]?=some (.cells cur e (0,0))) (ht:cur.toList.take ss.length=ss.map (Value.int .u32)):Holds (Value.int .u32) w g 0 ss.toArray:=by
 intro j hj
 have hj':j<ss.length:=by simpa using hj
 refine ⟨?_,by simp [World.frozen?,hb]⟩
 have h1:(cur.toList.take ss.length)[j]?=(ss.map (Value.int .u32))[j]?:=by rw [ht]
 rw [List.getElem?_take_of_lt hj'] at h1
 simp only [World.cell?,hb,Nat.zero_add]
 simp only [Option.isSome_none,Bool.false_eq_true,if_false]
 rw [<- Array.getElem?_toList,h1]
 simp [hj']
theorem heap_sortedR {w:World} {g n:Nat} {os:Array Obj} {cur:Array Value} {e:TypeId} {fr:Nat × Nat} (d:Array Int) (hb:w.heap[g]?=some (.cells cur e fr)) :
  (grow (putRow (Value.int .u32) (Sort.ahead w n) g 0 d) os).heap[g]?=some (.cells (putCells (Value.int .u32) 0 d cur) e fr):=by
 have hg:g<w.heap.size:=(Array.getElem?_eq_some_iff.1 hb).1;rw [heap_grow_old _ _ (by simpa using hg)]
 simp [putRow,mapBlock,Sort.ahead,Array.getElem?_modify,hb,onCells]
theorem grownBy_sortedR {w:World} {g n:Nat} {os:Array Obj} (d:Array Int):w.grownBy (grow (putRow (Value.int .u32) (Sort.ahead w n) g 0 d) os) (some g):=by
 refine ⟨rfl,rfl,rfl,by simp,fun k hk hne=>?_⟩;rw [heap_grow_old _ _ (by simpa using hk)]
 have:g≠k:=fun e=>hne (by rw [e])
 simp [putRow,mapBlock,Sort.ahead,Array.getElem?_modify,this]
theorem take_putCellsR (cur:Array Value) (ts:List Int) (h:ts.length<=cur.size):(putCells (Value.int .u32) 0 ts.toArray cur).toList.take ts.length=ts.map (Value.int .u32):=by
 apply List.ext_getElem?
 intro j
 by_cases hj:j<ts.length
 ·rw [List.getElem?_take_of_lt hj,Array.getElem?_toList]
  simp [putCells,hj,show j<cur.size by omega]
 ·rw [List.getElem?_take_eq_none (by omega),List.getElem?_eq_none (by simp;omega)]
theorem sort_int_eq (zs:List Int):Sort.sort ltInt zs.toArray=(zs.mergeSort fun x y=>decide (x<=y)).toArray:=by
 rw [<- sortInt zs]
theorem sort_spec (base:Nat) (v:Value) (l:List Int) (w:World) (h:w.ownsRow base 77 1 v l.length (l.map (Value.int .u32))) (hl:l.length<=1048576) :
  Calls Tryz.prog 249 #[v] w fun e w'=>e=.returned (.tuple #[])/\∃ l':List Int,l'.Perm l/\w'.ownsRow base 77 1 v l.length (l'.map (Value.int .u32))/\Upd v.ownBlock.toList w w':=by
 obtain ⟨a,c,rfl,hform⟩:=row_nil_len h
 rcases hform with ⟨rfl,h0,rfl⟩ | ⟨g,rfl⟩
 ·have hnil:l=[]:=List.eq_nil_of_length_eq_zero h0
  subst hnil;refine (sort_empty none 0 w).mono ?_;rintro e w' ⟨rfl,rfl⟩;exact ⟨rfl,[],List.Perm.refl _,h,Upd.refl _ _⟩
 ·obtain ⟨_,h1,h2,cur,hb,h3,h4⟩:=row_block h
  have hbase:base<=g:=(h.lt g rfl).1;rw [Nat.mul_one] at h4;have hH:=holds_of_blockR hb h4
  have hsz:l.toArray.size=l.length:=by simp
  have hc:=Srt.SoR.Sort_int Srt.pdqWalkInt g 0 c l.toArray w hH (heap_lt hb) (by rw [hsz];omega);rw [hsz,sort_int_eq l] at hc;refine hc.mono ?_;rintro e w' ⟨rfl,n,os,rfl⟩;have hp:(l.mergeSort fun x y=>decide (x<=y)).Perm l:=List.mergeSort_perm _ _;have hlen:=hp.length_eq;refine ⟨rfl,_,hp,⟨by simp [hlen],.inr ⟨g,c,_,rfl,hbase,heap_sortedR _ hb,h1,h2,by simp [putCells,h3],?_⟩⟩,(Upd.refl [g] w).grown (grownBy_sortedR _) fun k hk=>.inl (by simp at hk;simp [hk])⟩;rw [Nat.mul_one,<- hlen];exact take_putCellsR cur _ (by omega)
structure SortedQ (D:DM) (w:World) (e:Ending) (w':World):Prop where
 ex:∃ (a:Option Addr) (c:Nat) (l l0:List Int),e=.returned (.slice a l.length c)/\AllVals D l0/\l.Perm l0/\w'.ownsRow w.heap.size 77 1 (.slice a l.length c) l.length (l.map (Value.int .u32))/\Upd [] w w'
theorem AllVals.refs {T:List DM} {K:KV} {x:Nat} {D:DM} {l:List Int} (ht:TInv T K []) (hD:T[x]?=some D) (h:AllVals D l) :
  ∃ rs:List Nat,l=rs.map (fun r:Nat=>(r:Int))/\rs.Nodup/\∀ r,r∈rs↔(2<=r/\K.A.tk r=true/\K.vI r=(x:Int)):=by
 obtain ⟨ps,hn,hat,hk,rfl⟩:=h
 have key:∀ p,p∈ps->∃ (r:Nat) (c:PlaceV),p.2=(r:Int)/\2<=r/\K.A.list[r]?=some c/\c.taken=true/\c.var=(x:Int)/\p.1=nkp c:=fun p hp=>by
  obtain ⟨r,c,h2,hc,hct,hv,e,_⟩:=ht.dom x D p.1 hD ((hk p.1).1 (List.mem_map.2 ⟨p,hp,rfl⟩));have h1:=(ht.at_ r c D h2 hc hct (by simp) (by rw [hv];exact hD)).2 .nil;rw [<- e,hat p hp] at h1
  simp at h1
  exact ⟨r,c,h1,h2,hc,hct,hv,e⟩
 refine ⟨ps.map fun p=>p.2.toNat,?_,?_,fun r=>⟨fun hr=>?_,fun hr=>?_⟩⟩
 ·rw [List.map_map]
  refine List.map_congr_left fun p hp=>?_
  obtain ⟨r,_,e,_⟩:=key p hp
  simp [e]
 ·refine List.pairwise_map.2 (List.Pairwise.imp_of_mem (fun {a b} ha hb hne e=>hne ?_) (List.pairwise_map.1 hn))
  obtain ⟨r,c,e1,_,hc,_,_,k1⟩:=key a ha;obtain ⟨s,d,e2,_,hd,_,_,k2⟩:=key b hb;rw [e1,e2] at e
  simp at e
  subst e
  rw [hc] at hd;cases hd
  rw [k1,k2]
 ·obtain ⟨p,hp,rfl⟩:=List.mem_map.1 hr
  obtain ⟨s,c,e,h2,hc,hct,hv,_⟩:=key p hp;rw [e]
  simp only [Int.toNat_natCast]
  exact ⟨h2,ArenaV.tk_iff.2 ⟨c,hc,hct⟩,by rw [KV.vI_at hc];exact hv⟩
 ·obtain ⟨h2,htk,hv⟩:=hr
  obtain ⟨c,hc,hct⟩:=ArenaV.tk_iff.1 htk;rw [KV.vI_at hc] at hv;obtain ⟨g1,g2⟩:=ht.at_ r c D h2 hc hct (by simp) (by rw [hv];exact hD);obtain ⟨p,hp,e⟩:=List.mem_map.1 ((hk (nkp c)).2 g1);refine List.mem_map.2 ⟨p,hp,?_⟩;have h1:=hat p hp .nil;rw [e,g2] at h1
  simp at h1
  simp [<- h1]
set_option maxRecDepth 100000 in
set_option maxHeartbeats 800000 in
theorem sorted_spec (Bm b nn:Nat) (D:DM) (w:World) (hBm:Bm<w.heap.size) (hm:w.cell? ⟨Bm,0,none⟩=some (.map (some b))) (hown:w.ownsMap Tryz.prog 116 (plainElem Tryz.prog 77) b nn D) (hsz:Maps.size D<=1048576) (hbd:∀ l,AllVals D l->l.length<=1048576) :
  Calls Tryz.prog 241 #[.func (.func 250) #[] #[.pointer (some ⟨Bm,0,none⟩)]] w fun e w'=>SortedQ D w e w':=by
 have HC:=Lib.hid (collect_calls Bm b nn D w hBm hm hown hsz);have HBD:=Lib.hid hbd;clear hm hown hbd
 go_enter Tryz.func241,Tryz.ntmps241
 go_wp2_with fail;refine HC.out.mono ?_;rintro e w1 hE;obtain ⟨v,l,rfl,hl,hr,hB⟩:=hE.ex;have HL:=Lib.hid (And.intro hl (And.intro hr (below_upd hB (Nat.le_refl _))));obtain ⟨a,c,rfl,_⟩:=row_nil_len hr;have hll:=HBD.out l hl;have HS:=Lib.hid (sort_spec w.heap.size _ l w1 hr hll);clear hE hl hr hB HC;go_wp2_with fail;refine HS.out.mono ?_;rintro e w2 ⟨rfl,l',hp,hrow,hu⟩;have hlen:=hp.length_eq
 have HE:Hid (SortedQ D w (.returned (.slice a l.length c)) w2):=by
  rw [<- hlen] at hrow
  exact ⟨a,c,l',l,by rw [hlen],HL.out.1,hp,by rw [hlen] at hrow ⊢;exact hrow,HL.out.2.2.then hu fun k hk=>.inr (by
   have:=(HL.out.2.1.lt k (by simpa using hk)).1
   exact this)⟩
 clear hp hrow hu hlen HS;go_wp2_with fail;go_ret;exact HE.out
set_option maxRecDepth 100000 in
set_option maxHeartbeats 800000 in
theorem refs_spec (tb:Nat) (F:List Nat) (x:Nat) (T:List DM) (K:KV) (w:World) (h:TabAt w tb T F) (ht:TInv T K []) (hw:K.Wf []) (hx:x<K.vars) :
  Calls Tryz.prog 216 #[.pointer (some ⟨tb,0,none⟩),.int .i64 x] w fun e w'=>RefsX K x w e w':=by
 have hlt:x<T.length:=by rw [ht.len];exact hx
 have hv:T[x]?=some T[x]:=List.getElem?_eq_getElem hlt;generalize T[x]=D at hv;obtain ⟨g,cap,m,t1,t2,t3,c0,c1,hown⟩:=h.cells hv;have hsz:Maps.size D<=1048576:=ht.size hw hv (hown.canon nodeKeyed) (hown.tidy nodeKeyed);have hbd:=h.bd
 have hbl:∀ l,AllVals D l->l.length<=1048576:=fun l hl=>by
  obtain ⟨rs,rfl,hn,hm⟩:=hl.refs ht hv;rw [List.length_map]
  have h1:rs.length<=(List.range 1048576).length:=List.Nodup.length_le_of_subset hn fun r hr=>by
   have h2:=ArenaV.tk_lt ((hm r).1 hr).2.1;have h3:=hw.ok.lp;have h4:=hw.ok.pm;exact List.mem_range.2 (by omega)
  simpa using h1
 have HT:=Lib.hid h;have HO:=Lib.hid hown;have HTI:=Lib.hid (And.intro ht (And.intro hw (And.intro hv hbl)))
 have hvi:(x:Int)<(T.length:Int):=by omega
 clear h hown t1 t2 t3 hv ht hw hbl
 go_enter Tryz.func216,Tryz.ntmps216
 go_wp2_with fail;refine (tcheck_ok tb F x T _ HT.out (by omega) (by omega)).mono ?_;rintro e w1 ⟨rfl,rfl⟩;go_wp2_with fail;refine (values_calls (some m) _).mono ?_;rintro e w2 ⟨rfl,rfl⟩;have hb:=heap_alloc_new w (.cells #[.map (some m)] 186 (0,0));have HM:=Lib.hid (own_keep HO.out (((Upd.refl [] w).alloc (.cells #[.map (some m)] 186)).block m HO.out.lt (by simp)));have HCL:Hid ((w.alloc (.cells #[.map (some m)] 186)).cell? ⟨w.heap.size,0,none⟩=some (.map (some m))):=cell_at hb rfl;clear hb;go_wp2_with fail;refine (sorted_spec w.heap.size m _ D _ (by simp) HCL.out HM.out hsz HTI.out.2.2.2).mono ?_;rintro e w3 hE;obtain ⟨a,c,l,l0,rfl,hl0,hp,hrow,hu⟩:=hE.ex
 have HE:Hid (RefsX K x w (.returned (.tuple #[.slice a l.length c,.int .i64 0])) w3):=by
  obtain ⟨rs,e,hn,hm⟩:=hl0.refs HTI.out.1 HTI.out.2.2.1;subst e
  have hp2:(l.map Int.toNat).Perm rs:=by
   have:=hp.map Int.toNat;rw [List.map_map] at this
   have e2:rs.map (Int.toNat ∘ fun r:Nat=>(r:Int))=rs:=by
    conv=>rhs;rw [<- List.map_id rs]
    exact List.map_congr_left fun r _=>by simp
   rw [e2] at this;exact this
  have e3:flatRefs (l.map Int.toNat)=l.map (Value.int .u32):=by
   unfold flatRefs;rw [List.map_map]
   refine List.map_congr_left fun z hz=>?_
   obtain ⟨r,_,rfl⟩:=List.mem_map.1 (hp.subset hz);rfl
  refine ⟨l.map Int.toNat,a,c,by simp,hp2.symm.nodup hn,fun r=>by rw [hp2.mem_iff];exact hm r,?_,((Upd.refl [] w).alloc _).trans hu⟩;rw [List.length_map,e3];exact row_base hrow (by rw [World.size_alloc];omega)
 clear hE hl0 hp hrow hu;go_wp2_with fail;go_ret2;exact HE.out
theorem turn_spec (b l:Nat) (K:KV) (T:List DM) (q:KPtr) (w:World) (h:KerIn w b K T q) (hl:l+2<=K.vars) :
  Calls Tryz.prog 87 #[.pointer (some ⟨b,0,none⟩),.int .i64 l] w fun e w'=>KTurnQ b l K q w e w' :=
 turn_core b l K T q w h hl fun w0 u=>refs_spec q.t q.FT _ T K w0 (h.mem.tab.upd u (by simp)) h.ti h.ok.wf (h.ok.ord.pm.oo l (by omega)).1
end Go.Proofs.YtfkopmhpppeheaaGreat
