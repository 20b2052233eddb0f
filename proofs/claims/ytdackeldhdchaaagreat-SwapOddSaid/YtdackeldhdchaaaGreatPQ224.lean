import Derived.Test.YtdackeldhdchaaaGreatPQ21
import Derived.Test.YtdackeldhdchaaaGreatPQ220
import Derived.Test.YtdackeldhdchaaaGreatPQ221
import Derived.Test.YtdackeldhdchaaaGreatPQ222
import Derived.Test.YtdackeldhdchaaaGreatPQ223
import Derived.Sort.Grow
import Derived.Sort.LotD3
import Derived.Sort.LotD4
import Derived.Sort.LotB
import Derived.Deep.Cut
import Derived.Sort.Row
import Derived.Sort.AssemblyPlain
namespace Go.Sort
variable {α : Type} [Inhabited α]
def At (enc:α->Value) (w:World) (blk off:Nat) (d:Array α) (wr:World):Prop:=∃ n os,wr=grow (putRow enc (ahead w n) blk off d) os
section
variable {enc:α->Value} {w wr w1:World} {blk off:Nat} {d d' d0:Array α}
theorem At.refl (h:Holds enc w blk off d):At enc w blk off d w:=⟨0,#[],by rw [grow_empty,ahead_zero,putRow_self enc w blk off d h]⟩
theorem At.holds (h:At enc w blk off d wr) (h0:Holds enc w blk off d0) (hs:d.size=d0.size) (hb:blk<w.heap.size):Holds enc wr blk off d/\blk<wr.heap.size:=by
 obtain ⟨n,os,rfl⟩:=h;exact ⟨holds_grow enc _ os blk off d (by simpa using hb) (holds_putRow enc _ blk off d0 d (holds_ahead enc w n blk off d0 h0) hs),by simp;omega⟩
theorem At.step (h:At enc w blk off d wr) (hb:blk<w.heap.size) (hs:d'.size=d.size) (h1:∃ m,w1=putRow enc (ahead wr m) blk off d'):At enc w blk off d' w1:=by
 obtain ⟨n,os,rfl⟩:=h;obtain ⟨m,rfl⟩:=h1;exact ⟨n+m,os,grow_step enc w os n m blk off d d' hb hs⟩
theorem At.stepG (h:At enc w blk off d wr) (hb:blk<w.heap.size) (hs:d'.size=d.size) (h1:∃ m os',w1=grow (putRow enc (ahead wr m) blk off d') os'):At enc w blk off d' w1:=by
 obtain ⟨n,os,rfl⟩:=h;obtain ⟨m,os',rfl⟩:=h1;exact ⟨n+m,os++os',grow_step_grow enc w os os' n m blk off d d' hb hs⟩
theorem At.same (h:At enc w blk off d wr) (h0:Holds enc w blk off d0) (hs:d.size=d0.size) (hb:blk<w.heap.size) (h1:∃ m os',w1=grow (ahead wr m) os'):At enc w blk off d w1:=by
 obtain ⟨m,os',rfl⟩:=h1;refine h.stepG hb rfl ⟨m,os',?_⟩;rw [putRow_self enc (ahead wr m) blk off d (holds_ahead enc wr m blk off d (h.holds h0 hs hb).1)]
theorem At.ahead (h:At enc w blk off d wr) (m:Nat):At enc w blk off d (ahead wr m):=by
 obtain ⟨n,os,rfl⟩:=h;exact ⟨n+m,os,by rw [<- ahead_ahead];rfl⟩
end
section
variable (lt:α->α->Bool)
structure Rd (α : Type) where
 d1:Array α
 lim:Nat
 c:Nat × Hint
 d2:Array α
 pivot:Nat
 hint:Hint
 pi:Array α × Bool
def rd (d:Array α) (a b limit:Nat) (wb wp:Bool):Rd α :=
  let d1:=if !wb then breakPatterns d a b else d
  let c:=choosePivot lt d1 a b
  let d2:=if c.2=.decreasing then reverseRange d1 a b else d1
  let hint:=if c.2=.decreasing then Hint.increasing else c.2
  { d1:=d1,lim:=if !wb then limit - 1 else limit,c:=c,d2:=d2,pivot:=if c.2=.decreasing then (b - 1) - (c.1 - a) else c.1,hint:=hint,
    pi:=if wb && wp && hint=.increasing then partialInsertionSort lt d2 a b else (d2,false) }
variable {lt} {d:Array α} {a b limit:Nat} {wb wp:Bool}
theorem akE:pdq lt d a b limit wb wp =
  if b-a<=12 then insertionSort lt d a b else
  if limit=0 then heapSort lt d a b else
  if (rd lt d a b limit wb wp).pi.2=true then (rd lt d a b limit wb wp).pi.1 else
  if (decide (a > 0)&&!lt (rd lt d a b limit wb wp).pi.1[a-1]! (rd lt d a b limit wb wp).pi.1[(rd lt d a b limit wb wp).pivot]!)=true then
   (if a<(partitionEqual lt (rd lt d a b limit wb wp).pi.1 a b (rd lt d a b limit wb wp).pivot).1/\(partitionEqual lt (rd lt d a b limit wb wp).pi.1 a b (rd lt d a b limit wb wp).pivot).1<=b then pdq lt (partitionEqual lt (rd lt d a b limit wb wp).pi.1 a b (rd lt d a b limit wb wp).pivot).2 (partitionEqual lt (rd lt d a b limit wb wp).pi.1 a b (rd lt d a b limit wb wp).pivot).1 b (rd lt d a b limit wb wp).lim wb wp else (partitionEqual lt (rd lt d a b limit wb wp).pi.1 a b (rd lt d a b limit wb wp).pivot).2)
  else
   (if a<=(partition lt (rd lt d a b limit wb wp).pi.1 a b (rd lt d a b limit wb wp).pivot).1/\(partition lt (rd lt d a b limit wb wp).pi.1 a b (rd lt d a b limit wb wp).pivot).1<b then
    (if (partition lt (rd lt d a b limit wb wp).pi.1 a b (rd lt d a b limit wb wp).pivot).1-a<b-(partition lt (rd lt d a b limit wb wp).pi.1 a b (rd lt d a b limit wb wp).pivot).1 then
     pdq lt (pdq lt (partition lt (rd lt d a b limit wb wp).pi.1 a b (rd lt d a b limit wb wp).pivot).2.2 a (partition lt (rd lt d a b limit wb wp).pi.1 a b (rd lt d a b limit wb wp).pivot).1 (rd lt d a b limit wb wp).lim true true) ((partition lt (rd lt d a b limit wb wp).pi.1 a b (rd lt d a b limit wb wp).pivot).1+1) b (rd lt d a b limit wb wp).lim (decide ((partition lt (rd lt d a b limit wb wp).pi.1 a b (rd lt d a b limit wb wp).pivot).1-a ≥ (b-a)/8)) (partition lt (rd lt d a b limit wb wp).pi.1 a b (rd lt d a b limit wb wp).pivot).2.1
    else
     pdq lt (pdq lt (partition lt (rd lt d a b limit wb wp).pi.1 a b (rd lt d a b limit wb wp).pivot).2.2 ((partition lt (rd lt d a b limit wb wp).pi.1 a b (rd lt d a b limit wb wp).pivot).1+1) b (rd lt d a b limit wb wp).lim true true) a (partition lt (rd lt d a b limit wb wp).pi.1 a b (rd lt d a b limit wb wp).pivot).1 (rd lt d a b limit wb wp).lim (decide (b-(partition lt (rd lt d a b limit wb wp).pi.1 a b (rd lt d a b limit wb wp).pivot).1 ≥ (b-a)/8)) (partition lt (rd lt d a b limit wb wp).pi.1 a b (rd lt d a b limit wb wp).pivot).2.1)
   else (partition lt (rd lt d a b limit wb wp).pi.1 a b (rd lt d a b limit wb wp).pivot).2.2):=by
 rw [pdq];rfl
theorem aHF (h:b-a<=12):pdq lt d a b limit wb wp=insertionSort lt d a b:=by rw [akE,if_pos h]
theorem aKg (h:¬ b-a<=12) (h0:limit=0):pdq lt d a b limit wb wp=heapSort lt d a b:=by rw [akE,if_neg h,if_pos h0]
theorem aKh (h:¬ b-a<=12) (h0:¬ limit=0) (h1:(rd lt d a b limit wb wp).pi.2=true):pdq lt d a b limit wb wp=(rd lt d a b limit wb wp).pi.1:=by rw [akE,if_neg h,if_neg h0,if_pos h1]
theorem aPM (h:¬ b-a<=12) (h0:¬ limit=0) (h1:(rd lt d a b limit wb wp).pi.2=false) (h2:(decide (a > 0)&&!lt (rd lt d a b limit wb wp).pi.1[a-1]! (rd lt d a b limit wb wp).pi.1[(rd lt d a b limit wb wp).pivot]!)=true) (h3:a<(partitionEqual lt (rd lt d a b limit wb wp).pi.1 a b (rd lt d a b limit wb wp).pivot).1/\(partitionEqual lt (rd lt d a b limit wb wp).pi.1 a b (rd lt d a b limit wb wp).pivot).1<=b) :
  pdq lt d a b limit wb wp=pdq lt (partitionEqual lt (rd lt d a b limit wb wp).pi.1 a b (rd lt d a b limit wb wp).pivot).2 (partitionEqual lt (rd lt d a b limit wb wp).pi.1 a b (rd lt d a b limit wb wp).pivot).1 b (rd lt d a b limit wb wp).lim wb wp:=by
 rw [akE,if_neg h,if_neg h0,if_neg (by rw [h1];exact Bool.false_ne_true),if_pos h2,if_pos h3]
theorem aKi (h:¬ b-a<=12) (h0:¬ limit=0) (h1:(rd lt d a b limit wb wp).pi.2=false) (h2:(decide (a > 0)&&!lt (rd lt d a b limit wb wp).pi.1[a-1]! (rd lt d a b limit wb wp).pi.1[(rd lt d a b limit wb wp).pivot]!)=false) (h3:a<=(partition lt (rd lt d a b limit wb wp).pi.1 a b (rd lt d a b limit wb wp).pivot).1/\(partition lt (rd lt d a b limit wb wp).pi.1 a b (rd lt d a b limit wb wp).pivot).1<b) (h4:(partition lt (rd lt d a b limit wb wp).pi.1 a b (rd lt d a b limit wb wp).pivot).1-a<b-(partition lt (rd lt d a b limit wb wp).pi.1 a b (rd lt d a b limit wb wp).pivot).1) :
  pdq lt d a b limit wb wp=pdq lt (pdq lt (partition lt (rd lt d a b limit wb wp).pi.1 a b (rd lt d a b limit wb wp).pivot).2.2 a (partition lt (rd lt d a b limit wb wp).pi.1 a b (rd lt d a b limit wb wp).pivot).1 (rd lt d a b limit wb wp).lim true true) ((partition lt (rd lt d a b limit wb wp).pi.1 a b (rd lt d a b limit wb wp).pivot).1+1) b (rd lt d a b limit wb wp).lim (decide ((partition lt (rd lt d a b limit wb wp).pi.1 a b (rd lt d a b limit wb wp).pivot).1-a ≥ (b-a)/8)) (partition lt (rd lt d a b limit wb wp).pi.1 a b (rd lt d a b limit wb wp).pivot).2.1:=by
 rw [akE,if_neg h,if_neg h0,if_neg (by rw [h1];exact Bool.false_ne_true),if_neg (by rw [h2];exact Bool.false_ne_true),if_pos h3,if_pos h4]
theorem aHG (h:¬ b-a<=12) (h0:¬ limit=0) (h1:(rd lt d a b limit wb wp).pi.2=false) (h2:(decide (a > 0)&&!lt (rd lt d a b limit wb wp).pi.1[a-1]! (rd lt d a b limit wb wp).pi.1[(rd lt d a b limit wb wp).pivot]!)=false) (h3:a<=(partition lt (rd lt d a b limit wb wp).pi.1 a b (rd lt d a b limit wb wp).pivot).1/\(partition lt (rd lt d a b limit wb wp).pi.1 a b (rd lt d a b limit wb wp).pivot).1<b) (h4:¬ (partition lt (rd lt d a b limit wb wp).pi.1 a b (rd lt d a b limit wb wp).pivot).1-a<b-(partition lt (rd lt d a b limit wb wp).pi.1 a b (rd lt d a b limit wb wp).pivot).1) :
  pdq lt d a b limit wb wp=pdq lt (pdq lt (partition lt (rd lt d a b limit wb wp).pi.1 a b (rd lt d a b limit wb wp).pivot).2.2 ((partition lt (rd lt d a b limit wb wp).pi.1 a b (rd lt d a b limit wb wp).pivot).1+1) b (rd lt d a b limit wb wp).lim true true) a (partition lt (rd lt d a b limit wb wp).pi.1 a b (rd lt d a b limit wb wp).pivot).1 (rd lt d a b limit wb wp).lim (decide (b-(partition lt (rd lt d a b limit wb wp).pi.1 a b (rd lt d a b limit wb wp).pivot).1 ≥ (b-a)/8)) (partition lt (rd lt d a b limit wb wp).pi.1 a b (rd lt d a b limit wb wp).pivot).2.1:=by
 rw [akE,if_neg h,if_neg h0,if_neg (by rw [h1];exact Bool.false_ne_true),if_neg (by rw [h2];exact Bool.false_ne_true),if_pos h3,if_neg h4]
theorem aPN (hh:(rd lt d a b limit wb wp).c.2=.decreasing) :
  (rd lt d a b limit wb wp).d2=reverseRange (rd lt d a b limit wb wp).d1 a b/\(rd lt d a b limit wb wp).pivot=(b-1)-((rd lt d a b limit wb wp).c.1-a)/\(rd lt d a b limit wb wp).hint=.increasing:=⟨if_pos hh,if_pos hh,if_pos hh⟩
theorem aPO (hh:(rd lt d a b limit wb wp).c.2≠.decreasing) :
  (rd lt d a b limit wb wp).d2=(rd lt d a b limit wb wp).d1/\(rd lt d a b limit wb wp).pivot=(rd lt d a b limit wb wp).c.1/\(rd lt d a b limit wb wp).hint=(rd lt d a b limit wb wp).c.2:=⟨if_neg hh,if_neg hh,if_neg hh⟩
theorem aHH (hc:(wb&&wp&&decide ((rd lt d a b limit wb wp).hint=.increasing))=true):(rd lt d a b limit wb wp).pi=partialInsertionSort lt (rd lt d a b limit wb wp).d2 a b:=if_pos hc
theorem aKj (hc:(wb&&wp&&decide ((rd lt d a b limit wb wp).hint=.increasing))=false):(rd lt d a b limit wb wp).pi=((rd lt d a b limit wb wp).d2,false):=if_neg (fun h=>Bool.false_ne_true (hc.symm.trans h))
theorem aoc:(rd lt d a b limit wb wp).lim<=limit:=by
 show (if (!wb)=true then limit-1 else limit)<=limit
 split <;> omega
theorem aKk (h:SWO lt) (hpi:partialInsertionSort_stmt lt) (hrev:reverseRange_stmt α) (hab:a<b) (hb:b<=d.size) (hB:Below lt a b d) :
  (rd lt d a b limit wb wp).d1.size=d.size/\Below lt a b (rd lt d a b limit wb wp).d1/\(a<=(rd lt d a b limit wb wp).c.1/\(rd lt d a b limit wb wp).c.1<b) /\
  (rd lt d a b limit wb wp).d2.size=d.size/\Below lt a b (rd lt d a b limit wb wp).d2/\(a<=(rd lt d a b limit wb wp).pivot/\(rd lt d a b limit wb wp).pivot<b) /\
  (rd lt d a b limit wb wp).pi.1.size=d.size/\Below lt a b (rd lt d a b limit wb wp).pi.1:=by
 have p1:PermIn a b d (rd lt d a b limit wb wp).d1:=step_break d (Nat.le_of_lt hab) hb ((!wb)=true);have s1:=p1.1;have B1:=hB.perm hb p1;have c1:a<=(rd lt d a b limit wb wp).c.1/\(rd lt d a b limit wb wp).c.1<b:=choosePivot_holds lt (rd lt d a b limit wb wp).d1 a b hab;have p2:PermIn a b (rd lt d a b limit wb wp).d1 (rd lt d a b limit wb wp).d2:=step_reverse hrev (rd lt d a b limit wb wp).d1 (Nat.le_of_lt hab) (by rw [s1];exact hb) ((rd lt d a b limit wb wp).c.2=.decreasing);have s2:=p2.1.trans s1;have B2:=B1.perm (by rw [s1];exact hb) p2;have pv:a<=(rd lt d a b limit wb wp).pivot/\(rd lt d a b limit wb wp).pivot<b:=pivot_range c1.1 c1.2 ((rd lt d a b limit wb wp).c.2=.decreasing);have p3:PermIn a b (rd lt d a b limit wb wp).d2 (rd lt d a b limit wb wp).pi.1:=(step_partial hpi h (rd lt d a b limit wb wp).d2 hab (by rw [s2];exact hb) B2 ((wb&&wp&&decide ((rd lt d a b limit wb wp).hint=.increasing))=true)).1;exact ⟨s1,B1,c1,s2,B2,pv,p3.1.trans s2,B2.perm (by rw [s2];exact hb) p3⟩
end
end Go.Sort
namespace Go.Proofs.YtdackeldhdchaaaGreat.Srt
open Go.Sort Go.RowKit
structure aBO:Prop where
 ins:∀ (blk off cap a b:Nat) (d:Array Int) (w:World),Holds (Value.int .u32) w blk off d->a<=b->b<=d.size->d.size<4611686018427387904 ->
  Calls Tryz.prog 232 #[.slice (some ⟨blk,off,none⟩) d.size cap,.int .i64 a,.int .i64 b] w fun e w'=>e=.returned (.tuple #[])/\∃ n,w'=putRow (Value.int .u32) (Sort.ahead w n) blk off (insertionSort ltInt d a b)
 brk:∀ (blk off cap a b:Nat) (d:Array Int) (w:World),Holds (Value.int .u32) w blk off d->blk<w.heap.size->a<=b->b<=d.size->d.size<4611686018427387904 ->
  Calls Tryz.prog 234 #[.slice (some ⟨blk,off,none⟩) d.size cap,.int .i64 a,.int .i64 b] w fun e w'=>e=.returned (.tuple #[])/\∃ n os,w'=grow (putRow (Value.int .u32) (Sort.ahead w n) blk off (breakPatterns d a b)) os
 piv:∀ (blk off cap a b:Nat) (d:Array Int) (w:World),Holds (Value.int .u32) w blk off d->blk<w.heap.size->a<b->b<=d.size->d.size<4611686018427387904 ->
  Calls Tryz.prog 235 #[.slice (some ⟨blk,off,none⟩) d.size cap,.int .i64 a,.int .i64 b] w fun e w'=>e=.returned (.tuple #[.int .i64 (choosePivot ltInt d a b).1,.int .i64 (hintCode (choosePivot ltInt d a b).2)])/\∃ n os,w'=grow (Sort.ahead w n) os
 par:∀ (blk off cap a b:Nat) (d:Array Int) (w:World),Holds (Value.int .u32) w blk off d->a<b->b<=d.size->d.size<4611686018427387904 ->
  Calls Tryz.prog 237 #[.slice (some ⟨blk,off,none⟩) d.size cap,.int .i64 a,.int .i64 b] w fun e w'=>e=.returned (.bool (partialInsertionSort ltInt d a b).2)/\∃ n,w'=putRow (Value.int .u32) (Sort.ahead w n) blk off (partialInsertionSort ltInt d a b).1
 peq:∀ (blk off cap a b pivot:Nat) (d:Array Int) (w:World),Holds (Value.int .u32) w blk off d->a<=pivot->pivot<b->b<=d.size->d.size<4611686018427387904 ->
  Calls Tryz.prog 239 #[.slice (some ⟨blk,off,none⟩) d.size cap,.int .i64 a,.int .i64 b,.int .i64 pivot] w fun e w'=>e=.returned (.int .i64 (partitionEqual ltInt d a b pivot).1)/\∃ n,w'=putRow (Value.int .u32) (Sort.ahead w n) blk off (partitionEqual ltInt d a b pivot).2
 prt:∀ (blk off cap a b pivot:Nat) (d:Array Int) (w:World),Holds (Value.int .u32) w blk off d->a<=pivot->pivot<b->b<=d.size->d.size<4611686018427387904 ->
  Calls Tryz.prog 240 #[.slice (some ⟨blk,off,none⟩) d.size cap,.int .i64 a,.int .i64 b,.int .i64 pivot] w fun e w'=>e=.returned (.tuple #[.int .i64 (partition ltInt d a b pivot).1,.bool (partition ltInt d a b pivot).2.1])/\∃ n,w'=putRow (Value.int .u32) (Sort.ahead w n) blk off (partition ltInt d a b pivot).2.2
structure aGN:Prop where
 swo:SWO ltInt
 ins:insertionSort_stmt ltInt
 par:partialInsertionSort_stmt ltInt
 prt:partition_stmt ltInt
 peq:partitionEqual_stmt ltInt
 pdq:pdq_stmt ltInt
theorem aCC {h:Hint} (e:hintCode h=2):h=.decreasing:=by cases h <;> simp [hintCode] at e ⊢
theorem aKm {x y p q:Nat} (h1:q<=p) (h2:y<=x):decide (((x:Int)-(y:Int))/8<=(p:Int)-(q:Int))=decide (p-q ≥ (x-y)/8) :=
 decide_eq_decide.2 ⟨fun h=>by omega,fun h=>by omega⟩
set_option maxHeartbeats 6400000 in
set_option maxRecDepth 1000000 in
theorem SoR.pdqsort_int (C:aBO) (S:aGN):∀ (N blk off cap a b limit:Nat) (d:Array Int) (w:World),b - a < N→Holds (Value.int .u32) w blk off d→blk < w.heap.size→a≤b→b≤d.size→d.size < 4611686018427387904→limit < 4611686018427387904→Below ltInt a b d →
    Calls Tryz.prog 230 #[.slice (some ⟨blk,off,none⟩) d.size cap,.int .i64 a,.int .i64 b,.int .i64 limit] w fun e w'=>e=.returned (.tuple #[])∧At (Value.int .u32) w blk off (pdq ltInt d a b limit true true) w':=by
  intro N
  induction N with
  | zero=>intro _ _ _ _ _ _ _ _ h; exact absurd h (Nat.not_lt_zero _)
  | succ N ih =>
    intro blk off cap a b limit d w hN hH ais hab hb hsz aKn aSw
    go_enter Tryz.func230,Tryz.ntmps230
    go_wp2
    go_loopg [1,2,3,8,9] (b - a) (fun k s1 s2 s3 s8 s9 wr=>∃ (a' b' lim:Nat) (wb wp:Bool) (dk:Array Int),s1=.int .i64 a'∧s2=.int .i64 b'∧s3=.int .i64 lim∧s8=.bool wb∧s9=.bool wp ∧
      a'≤b'∧b'≤d.size∧b' - a'≤k∧k≤b - a∧lim≤limit∧dk.size=d.size∧Below ltInt a' b' dk∧At (Value.int .u32) w blk off dk wr∧pdq ltInt dk a' b' lim wb wp=pdq ltInt d a b limit true true)
    case atStart=>exact ⟨a,b,limit,true,true,d,rfl,rfl,rfl,rfl,rfl,hab,hb,Nat.le_refl _,Nat.le_refl _,Nat.le_refl _,rfl,aSw,At.refl hH,rfl⟩
    case round =>
      obtain ⟨a',b',lim,wb,wp,dk,rfl,rfl,rfl,rfl,rfl,aHI,hb',hk,hkN,hlim,hds,aWz,hAt,heq⟩:=hrel;obtain ⟨hHk,aSy⟩:=hAt.holds hH hds ais;have A:Aside (pdq ltInt dk a' b' lim wb wp=pdq ltInt d a b limit true true):=heq;clear heq
      by_cases h12:b' - a'≤12
      · -- 'if length <= maxInsertion'
        have aWA:(b':Int) - (a':Int)≤12:=by omega
        have hc:=C.ins blk off cap a' b' dk wr hHk aHI (by omega) (by omega);rw [hds] at hc
        go_wp2_with (go_at_call 232; refine hc.mono ?_; rintro e w1 ⟨rfl,hw1⟩)
        (try simp only [Exit.inBlock,Exit.then]); refine bodyPost_ret (results_none rfl _ _ _) rfl ?_
        refine ⟨rfl,?_⟩;rw [← A.out,aHF h12];exact hAt.step ais (S.ins S.swo dk a' b' aHI (by omega)).1.1 hw1
      · have aWA:¬ ((b':Int) - (a':Int)≤12):=by omega
        by_cases hl0:lim=0
        · -- 'if limit == 0'
          subst hl0;have hc:=SoR.heapSort_int blk off d.size cap dk hds a' b' wr hHk aHI (by omega) (by omega)
          go_wp2_with (go_at_call 233; refine hc.mono ?_; rintro e w1 ⟨rfl,hw1⟩)
          (try simp only [Exit.inBlock,Exit.then]); refine bodyPost_ret (results_none rfl _ _ _) rfl ?_
          refine ⟨rfl,?_⟩;rw [← A.out,aKg h12 rfl];exact hAt.step ais (heapSort_holds S.swo dk a' b' aHI (by omega)).1.1 hw1
        · have a2m:¬ ((lim:Int)=0):=by omega
          obtain ⟨s1,B1,hc1,s2,B2,hpv,s3,B3⟩:=aKk (limit:=lim) (wb:=wb) (wp:=wp) S.swo S.par reverseRange_holds (show a' < b' by omega) (show b'≤dk.size by omega) aWz;go_upto_if 35 with fail
          go_cut [3] from 19 (fun s3 wc=>s3=.int .i64 (rd ltInt dk a' b' lim wb wp).lim∧At (Value.int .u32) w blk off (rd ltInt dk a' b' lim wb wp).d1 wc)
          case first =>
            cases wb
            · have hc:=C.brk blk off cap a' b' dk wr hHk aSy aHI (by omega) (by omega)
              rw [hds] at hc
              go_wp2_with (go_at_call 234; refine hc.mono ?_; rintro e w1 ⟨rfl,hw1⟩)
              go_meet
              case rel =>
                refine ⟨?_,hAt.stepG ais s1 hw1⟩
                show Value.int .i64 ((lim:Int) - 1)=Value.int .i64 ((lim - 1:Nat):Int)
                congr 1
                omega
            · go_wp2_with fail
              go_meet
              case rel=>exact ⟨rfl,hAt⟩
          case rest =>
            obtain ⟨rfl,aSz⟩:=hcut;obtain ⟨hH1,aSA⟩:=aSz.holds hH (s1.trans hds) ais
            have aWB:Calls Tryz.prog 235 #[.slice (some ⟨blk,off,none⟩) d.size cap,.int .i64 a',.int .i64 b'] wc fun e w'=>e=.returned (.tuple #[.int .i64 (rd ltInt dk a' b' lim wb wp).c.1,.int .i64 (hintCode (rd ltInt dk a' b' lim wb wp).c.2)])∧∃ n os,w'=grow (Sort.ahead wc n) os:=by
              have:=C.piv blk off cap a' b' (rd ltInt dk a' b' lim wb wp).d1 wc hH1 aSA (by omega) (by omega) (by omega);rw [s1,hds] at this;exact this
            go_upto_if 50 with (go_at_call 235; refine aWB.mono ?_; rintro e w2 ⟨rfl,hw2⟩)
            have aPP:At (Value.int .u32) w blk off (rd ltInt dk a' b' lim wb wp).d1 w2:=aSz.same hH (s1.trans hds) ais hw2;obtain ⟨hH2,aZk⟩:=aPP.holds hH (s1.trans hds) ais
            go_cut [11,12] from 19 (fun s11 s12 wc=>s11=.int .i64 (rd ltInt dk a' b' lim wb wp).pivot∧s12=.int .i64 (hintCode (rd ltInt dk a' b' lim wb wp).hint)∧At (Value.int .u32) w blk off (rd ltInt dk a' b' lim wb wp).d2 wc)
            case first =>
              by_cases hh:(rd ltInt dk a' b' lim wb wp).c.2=.decreasing
              · have aDY:hintCode (rd ltInt dk a' b' lim wb wp).c.2=2:=by rw [hh]; rfl
                obtain ⟨e2,epv,eht⟩:=aPN hh;have aSB:=SoR.reverseRange_int blk off cap (rd ltInt dk a' b' lim wb wp).d1 a' b' w2 hH2 aHI (by omega) (by omega);rw [s1,hds] at aSB
                go_wp2_with (go_at_call 236; refine aSB.mono ?_; rintro e w3 ⟨rfl,hw3⟩)
                go_meet
                case rel =>
                  refine ⟨?_,by rw [eht]; rfl,by rw [e2]; exact aPP.step ais (by rw [← e2,s2,s1]) hw3⟩;rw [epv]
                  congr 1
                  omega
              · have aDY:¬ (hintCode (rd ltInt dk a' b' lim wb wp).c.2=2):=fun h=>hh (aCC h)
                obtain ⟨e2,epv,eht⟩:=aPO hh;go_wp2_with fail;go_meet
                case rel=>exact ⟨by rw [epv],by rw [eht],by rw [e2]; exact aPP⟩
            case rest =>
              obtain ⟨rfl,rfl,aM0⟩:=hcut;obtain ⟨hH3,aZl⟩:=aM0.holds hH (s2.trans hds) ais;go_upto_region 15 with fail
              go_cut [12,68] from 19 (fun s12 s68 wx=>s12=.int .i64 (hintCode (rd ltInt dk a' b' lim wb wp).hint)∧s68=.bool (wb && wp && decide ((rd ltInt dk a' b' lim wb wp).hint=.increasing))∧wx=wc)
              case first =>
                cases wb <;> cases wp <;> cases hh3:(rd ltInt dk a' b' lim _ _).hint <;>
                  (have aPQ:=congrArg hintCode hh3
                   simp only [hintCode] at aPQ
                   go_wp2_with fail;go_meet
                   exact ⟨by simp [hh3,hintCode],by simp [hh3,hintCode],rfl⟩)
              case rest =>
                obtain ⟨rfl,rfl,rfl⟩:=hcut;go_upto_if 68 with fail
                go_cut [] from 19 (fun wx=>(rd ltInt dk a' b' lim wb wp).pi.2=false∧At (Value.int .u32) w blk off (rd ltInt dk a' b' lim wb wp).pi.1 wx)
                case first =>
                  cases h68:(wb && wp && decide ((rd ltInt dk a' b' lim wb wp).hint=.increasing))
                  · have epi:=aKj h68
                    go_wp2_with fail;go_meet
                    case rel=>exact ⟨by rw [epi],by rw [epi]; exact aM0⟩
                  · have epi:=aHH h68
                    have aSC:=C.par blk off cap a' b' (rd ltInt dk a' b' lim wb wp).d2 wc hH3 (by omega) (by omega) (by omega);rw [s2,hds,← epi] at aSC
                    go_wp2_with (go_at_call 237; refine aSC.mono ?_; rintro e w4 ⟨rfl,hw4⟩)
                    all_goals first
                      | (have hp2:(rd ltInt dk a' b' lim wb wp).pi.2=false:=by rw [epi]; assumption
                         go_meet
                         exact ⟨hp2,aM0.step ais (by rw [s3,s2]) hw4⟩)
                      | (have hp2:(rd ltInt dk a' b' lim wb wp).pi.2=true:=by rw [epi]; assumption
                         (try simp only [Exit.inBlock,Exit.then]); refine bodyPost_ret (results_none rfl _ _ _) rfl ?_
                         refine ⟨rfl,?_⟩;rw [← A.out,aKh h12 hl0 hp2]
                         exact aM0.step ais (by rw [s3,s2]) hw4)
                case rest =>
                  obtain ⟨hp2,aPR⟩:=hcut;obtain ⟨hH5,aZo⟩:=aPR.holds hH (s3.trans hds) ais
                  have hcw:∀ t,t < d.size→wc.cell? ⟨blk,off + t,none⟩=some (.int .u32 (rd ltInt dk a' b' lim wb wp).pi.1[t]!):=fun t ht=>(hH5 t (by omega)).1
                  have hfw:∀ t,t < d.size→wc.frozen? ⟨blk,off + t,none⟩=false:=fun t ht=>(hH5 t (by omega)).2
                  go_upto_region 17 with fail
                  go_cut [87] from 19 (fun s87 wx=>s87=.bool (decide (a' > 0) && !ltInt (rd ltInt dk a' b' lim wb wp).pi.1[a' - 1]! (rd ltInt dk a' b' lim wb wp).pi.1[(rd ltInt dk a' b' lim wb wp).pivot]!)∧At (Value.int .u32) w blk off (rd ltInt dk a' b' lim wb wp).pi.1 wx)
                  case first =>
                    rcases Nat.eq_zero_or_pos a' with ha0 | ha0
                    · have aWE:decide ((a':Int) > 0)=false:=decide_eq_false (by omega)
                      go_big_quiet (first | (go_at_call 238; refine Calls.quiet_of_same (SoR.cmp_Less_int _ _ _)))
                      go_wp2_with fail;go_meet
                      case rel=>exact ⟨by simp [ha0],aPR.ahead nq⟩
                    · have aWE:(a':Int) > 0:=by omega
                      go_big_quiet (first | (go_at_call 238; refine Calls.quiet_of_same (SoR.cmp_Less_int _ _ _)))
                      go_wp2_with fail;go_meet
                      case rel=>exact ⟨by simp [ha0],aPR.ahead nq⟩
                  case rest =>
                    obtain ⟨rfl,aPS⟩:=hcut;obtain ⟨hH6,aGO⟩:=aPS.holds hH (s3.trans hds) ais;clear hcw hfw;cases h87:(decide (a' > 0) && !ltInt (rd ltInt dk a' b' lim wb wp).pi.1[a' - 1]! (rd ltInt dk a' b' lim wb wp).pi.1[(rd ltInt dk a' b' lim wb wp).pivot]!)
                    · -- ████ 'mid,alreadyPartitioned:=partitionOrdered(..)'; THE SMALLER SIDE BY A CALL OF ITSELF,the other by the next round
                      obtain ⟨mid,ap,d4,hx⟩ : ∃ mid ap d4,partition ltInt (rd ltInt dk a' b' lim wb wp).pi.1 a' b' (rd ltInt dk a' b' lim wb wp).pivot=(mid,ap,d4):=⟨(partition ltInt (rd ltInt dk a' b' lim wb wp).pi.1 a' b' (rd ltInt dk a' b' lim wb wp).pivot).1,(partition ltInt (rd ltInt dk a' b' lim wb wp).pi.1 a' b' (rd ltInt dk a' b' lim wb wp).pivot).2.1,(partition ltInt (rd ltInt dk a' b' lim wb wp).pi.1 a' b' (rd ltInt dk a' b' lim wb wp).pivot).2.2,rfl⟩;obtain ⟨r1,r2,r3,r4,r5,r6,r7⟩:=round_part S.swo S.prt hpv.1 hpv.2 (show b'≤(rd ltInt dk a' b' lim wb wp).pi.1.size by omega) B3 hx;have aSD:=C.prt blk off cap a' b' (rd ltInt dk a' b' lim wb wp).pivot (rd ltInt dk a' b' lim wb wp).pi.1 wc hH6 hpv.1 hpv.2 (by omega) (by omega);rw [s3,hds,hx] at aSD;have X:Aside (partition ltInt (rd ltInt dk a' b' lim wb wp).pi.1 a' b' (rd ltInt dk a' b' lim wb wp).pivot=(mid,ap,d4)):=hx;clear hx
                      go_upto_if 113 with (go_at_call 240; refine aSD.mono ?_; rintro e w7 ⟨rfl,hw7⟩)
                      have hx:=X.out;have aPU:At (Value.int .u32) w blk off d4 w7:=aPS.step ais r3 hw7;obtain ⟨hH7,aOk⟩:=aPU.holds hH (r3.trans (s3.trans hds)) ais
                      by_cases h4:mid - a' < b' - mid
                      · have h4z:(mid:Int) - (a':Int) < (b':Int) - (mid:Int):=by omega
                        have hih:=ih blk off cap a' mid (rd ltInt dk a' b' lim wb wp).lim d4 w7 (by omega) hH7 aOk (by omega) (by omega) (by omega) (Nat.lt_of_le_of_lt (Nat.le_trans aoc hlim) aKn) r4;rw [r3,s3,hds] at hih;obtain ⟨pL,sL⟩:=S.pdq S.swo d4 a' mid (rd ltInt dk a' b' lim wb wp).lim true true (by omega) (by omega) r4
                        go_wp2_with (go_at_call 230; refine hih.mono ?_; rintro e w8 ⟨rfl,hw8⟩)
                        go_roundg (b' - (mid + 1))
                        case measure=>omega
                        case rel =>
                          refine ⟨mid + 1,b',(rd ltInt dk a' b' lim wb wp).lim,decide (mid - a' ≥ (b' - a') / 8),ap,pdq ltInt d4 a' mid (rd ltInt dk a' b' lim wb wp).lim true true,by simp,rfl,rfl,?_,rfl,by omega,by omega,Nat.le_refl _,by omega,Nat.le_trans aoc hlim,by rw [pL.1,r3,s3,hds],(r6 _ pL sL).1,aPU.stepG ais pL.1 hw8,?_⟩
                          · exact congrArg Value.bool (aKm (by omega) (by omega))
                          · rw [← A.out,aKi h12 hl0 hp2 h87 (by rw [hx]; exact ⟨r1,r2⟩) (by rw [hx]; exact h4),hx]
                      · have h4z:¬ ((mid:Int) - (a':Int) < (b':Int) - (mid:Int)):=by omega
                        have hih:=ih blk off cap (mid + 1) b' (rd ltInt dk a' b' lim wb wp).lim d4 w7 (by omega) hH7 aOk (by omega) (by omega) (by omega) (Nat.lt_of_le_of_lt (Nat.le_trans aoc hlim) aKn) r5;rw [r3,s3,hds] at hih;obtain ⟨pL,sL⟩:=S.pdq S.swo d4 (mid + 1) b' (rd ltInt dk a' b' lim wb wp).lim true true (by omega) (by omega) r5
                        go_wp2_with (go_at_call 230; refine hih.mono ?_; rintro e w8 ⟨rfl,hw8⟩)
                        go_roundg (mid - a')
                        case measure=>omega
                        case rel =>
                          refine ⟨a',mid,(rd ltInt dk a' b' lim wb wp).lim,decide (b' - mid ≥ (b' - a') / 8),ap,pdq ltInt d4 (mid + 1) b' (rd ltInt dk a' b' lim wb wp).lim true true,rfl,rfl,rfl,?_,rfl,by omega,by omega,Nat.le_refl _,by omega,Nat.le_trans aoc hlim,by rw [pL.1,r3,s3,hds],(r7 _ pL sL).1,aPU.stepG ais pL.1 hw8,?_⟩
                          · exact congrArg Value.bool (aKm (by omega) (by omega))
                          · rw [← A.out,aHG h12 hl0 hp2 h87 (by rw [hx]; exact ⟨r1,r2⟩) (by rw [hx]; exact h4),hx]
                    · -- ████ 'mid:=partitionEqualOrdered(..); a=mid; continue'
                      have aPW:=h87
                      simp only [Bool.and_eq_true,decide_eq_true_eq,Bool.not_eq_true'] at aPW
                      obtain ⟨mid,d4,hx⟩ : ∃ mid d4,partitionEqual ltInt (rd ltInt dk a' b' lim wb wp).pi.1 a' b' (rd ltInt dk a' b' lim wb wp).pivot=(mid,d4):=⟨(partitionEqual ltInt (rd ltInt dk a' b' lim wb wp).pi.1 a' b' (rd ltInt dk a' b' lim wb wp).pivot).1,(partitionEqual ltInt (rd ltInt dk a' b' lim wb wp).pi.1 a' b' (rd ltInt dk a' b' lim wb wp).pivot).2,rfl⟩;obtain ⟨r1,r2,r3,r4,_⟩:=round_eq S.swo S.peq aPW.1 hpv.1 hpv.2 (show b'≤(rd ltInt dk a' b' lim wb wp).pi.1.size by omega) B3 aPW.2 hx;have aSF:=C.peq blk off cap a' b' (rd ltInt dk a' b' lim wb wp).pivot (rd ltInt dk a' b' lim wb wp).pi.1 wc hH6 hpv.1 hpv.2 (by omega) (by omega);rw [s3,hds,hx] at aSF;have X:Aside (partitionEqual ltInt (rd ltInt dk a' b' lim wb wp).pi.1 a' b' (rd ltInt dk a' b' lim wb wp).pivot=(mid,d4)):=hx;clear hx
                      go_wp2_with (go_at_call 239; refine aSF.mono ?_; rintro e w7 ⟨rfl,hw7⟩)
                      go_roundg (b' - mid)
                      case measure=>omega
                      case rel =>
                        have hx:=X.out;exact ⟨mid,b',(rd ltInt dk a' b' lim wb wp).lim,wb,wp,d4,rfl,rfl,rfl,rfl,rfl,r2,hb',Nat.le_refl _,by omega,Nat.le_trans aoc hlim,by rw [r3,s3,hds],r4,aPS.step ais r3 hw7,by rw [← A.out,aPM h12 hl0 hp2 h87 (by rw [hx]; exact ⟨r1,r2⟩),hx]⟩
end Go.Proofs.YtdackeldhdchaaaGreat.Srt
namespace Go.Proofs.YtdackeldhdchaaaGreat
open Go.RowKit Go.Maps Go.ChangeMaps Go.WideShapes Go.Sort
namespace Srt
theorem aHJ:aBO where
 ins:=SoR.insertionSort_int
 brk:=SoR.breakPatterns_int
 piv:=SoR.choosePivot_int
 par:=SoR.partialInsertionSort_int
 peq:=SoR.partitionEqualOrdered_int
 prt:=SoR.partitionOrdered_int
theorem aM1:aGN where
 swo:=swo_ltInt
 ins:=insertionSort_holds
 par:=partialInsertionSort_holds
 prt:=partition_holds _
 peq:=partitionEqual_holds _
 pdq:=pdq_sorts _
theorem pdqWalkInt:aws:=fun blk off cap a b limit d w hH hb hab hbd hsz hl hB =>
 SoR.pdqsort_int aHJ aM1 (b-a+1) blk off cap a b limit d w (by omega) hH hb hab hbd hsz hl hB
end Srt
theorem axs {w:World} {g:Nat} {cur:Array Value} {e:TypeId} {ss:List Int} (hb:w.heap[g]?=some (.cells cur e (0,0))) (ht:cur.toList.take ss.length=ss.map (Value.int .u32)):Holds (Value.int .u32) w g 0 ss.toArray:=by
 intro j hj
 have hj':j<ss.length:=by simpa using hj
 refine ⟨?_,by simp [World.frozen?,hb]⟩
 have h1:(cur.toList.take ss.length)[j]?=(ss.map (Value.int .u32))[j]?:=by rw [ht]
 rw [List.getElem?_take_of_lt hj'] at h1
 simp only [World.cell?,hb,Nat.zero_add]
 simp only [Option.isSome_none,Bool.false_eq_true,if_false]
 rw [<- Array.getElem?_toList,h1]
 simp [hj']
theorem aCD {w:World} {g n:Nat} {os:Array Obj} {cur:Array Value} {e:TypeId} {fr:Nat × Nat} (d:Array Int) (hb:w.heap[g]?=some (.cells cur e fr)) :
  (grow (putRow (Value.int .u32) (Sort.ahead w n) g 0 d) os).heap[g]?=some (.cells (putCells (Value.int .u32) 0 d cur) e fr):=by
 have hg:g<w.heap.size:=(Array.getElem?_eq_some_iff.1 hb).1;rw [heap_grow_old _ _ (by simpa using hg)]
 simp [putRow,mapBlock,Sort.ahead,Array.getElem?_modify,hb,onCells]
theorem axD {w:World} {g n:Nat} {os:Array Obj} (d:Array Int):w.grownBy (grow (putRow (Value.int .u32) (Sort.ahead w n) g 0 d) os) (some g):=by
 refine ⟨rfl,rfl,rfl,by simp,fun k hk hne=>?_⟩;rw [heap_grow_old _ _ (by simpa using hk)]
 have:g≠k:=fun e=>hne (by rw [e])
 simp [putRow,mapBlock,Sort.ahead,Array.getElem?_modify,this]
theorem ay3 (cur:Array Value) (ts:List Int) (h:ts.length<=cur.size):(putCells (Value.int .u32) 0 ts.toArray cur).toList.take ts.length=ts.map (Value.int .u32):=by
 apply List.ext_getElem?
 intro j
 by_cases hj:j<ts.length
 ·rw [List.getElem?_take_of_lt hj,Array.getElem?_toList]
  simp [putCells,hj,show j<cur.size by omega]
 ·rw [List.getElem?_take_eq_none (by omega),List.getElem?_eq_none (by simp;omega)]
theorem aDZ (zs:List Int):Sort.sort ltInt zs.toArray=(zs.mergeSort fun x y=>decide (x<=y)).toArray:=by
 rw [<- sortInt zs]
theorem aHK (base:Nat) (v:Value) (l:List Int) (w:World) (h:w.ownsRow base 77 1 v l.length (l.map (Value.int .u32))) (hl:l.length<=1048576) :
  Calls Tryz.prog 226 #[v] w fun e w'=>e=.returned (.tuple #[])/\∃ l':List Int,l'.Perm l/\w'.ownsRow base 77 1 v l.length (l'.map (Value.int .u32))/\Upd v.ownBlock.toList w w':=by
 obtain ⟨a,c,rfl,awK⟩:=abI h
 rcases awK with ⟨rfl,h0,rfl⟩ | ⟨g,rfl⟩
 ·have aM2:l=[]:=List.eq_nil_of_length_eq_zero h0
  subst aM2;refine (aFC none 0 w).mono ?_;rintro e w' ⟨rfl,rfl⟩;exact ⟨rfl,[],List.Perm.refl _,h,Upd.refl _ _⟩
 ·obtain ⟨_,h1,h2,cur,hb,h3,h4⟩:=ajT h
  have ayu:base<=g:=(h.lt g rfl).1;rw [Nat.mul_one] at h4;have hH:=axs hb h4
  have hsz:l.toArray.size=l.length:=by simp
  have hc:=Srt.SoR.Sort_int Srt.pdqWalkInt g 0 c l.toArray w hH (aa4 hb) (by rw [hsz];omega);rw [hsz,aDZ l] at hc;refine hc.mono ?_;rintro e w' ⟨rfl,n,os,rfl⟩;have hp:(l.mergeSort fun x y=>decide (x<=y)).Perm l:=List.mergeSort_perm _ _;have hlen:=hp.length_eq;refine ⟨rfl,_,hp,⟨by simp [hlen],.inr ⟨g,c,_,rfl,ayu,aCD _ hb,h1,h2,by simp [putCells,h3],?_⟩⟩,(Upd.refl [g] w).grown (axD _) fun k hk=>.inl (by simp at hk;simp [hk])⟩;rw [Nat.mul_one,<- hlen];exact ay3 cur _ (by omega)
structure aGP (D:DM) (w:World) (e:Ending) (w':World):Prop where
 ex:∃ (a:Option Addr) (c:Nat) (l l0:List Int),e=.returned (.slice a l.length c)/\amd D l0/\l.Perm l0/\w'.ownsRow w.heap.size 77 1 (.slice a l.length c) l.length (l.map (Value.int .u32))/\Upd [] w w'
theorem amd.refs {T:List DM} {K:KV} {x:Nat} {D:DM} {l:List Int} (ht:afg T K []) (hD:T[x]?=some D) (h:amd D l) :
  ∃ rs:List Nat,l=rs.map (fun r:Nat=>(r:Int))/\rs.Nodup/\∀ r,r∈rs↔(2<=r/\K.A.tk r=true/\K.vI r=(x:Int)):=by
 obtain ⟨ps,hn,hat,hk,rfl⟩:=h
 have key:∀ p,p∈ps->∃ (r:Nat) (c:abu),p.2=(r:Int)/\2<=r/\K.A.list[r]?=some c/\c.taken=true/\c.var=(x:Int)/\p.1=nkp c:=fun p hp=>by
  obtain ⟨r,c,h2,hc,hct,hv,e,_⟩:=ht.dom x D p.1 hD ((hk p.1).1 (List.mem_map.2 ⟨p,hp,rfl⟩));have h1:=(ht.at_ r c D h2 hc hct (by simp) (by rw [hv];exact hD)).2 .nil;rw [<- e,hat p hp] at h1
  simp at h1
  exact ⟨r,c,h1,h2,hc,hct,hv,e⟩
 refine ⟨ps.map fun p=>p.2.toNat,?_,?_,fun r=>⟨fun hr=>?_,fun hr=>?_⟩⟩
 ·rw [List.map_map]
  refine List.map_congr_left fun p hp=>?_
  obtain ⟨r,_,e,_⟩:=key p hp
  simp [e]
 ·refine List.pairwise_map.2 (List.Pairwise.imp_of_mem (fun {a b} ha hb hne e=>hne ?_) (List.pairwise_map.1 hn))
  obtain ⟨r,c,e1,_,hc,_,_,k1⟩:=key a ha;obtain ⟨s,d,e2,_,hd,_,_,k2⟩:=key b hb;rw [e1,e2] at e
  simp at e
  subst e
  rw [hc] at hd;cases hd
  rw [k1,k2]
 ·obtain ⟨p,hp,rfl⟩:=List.mem_map.1 hr
  obtain ⟨s,c,e,h2,hc,hct,hv,_⟩:=key p hp;rw [e]
  simp only [Int.toNat_natCast]
  exact ⟨h2,aaU.tk_iff.2 ⟨c,hc,hct⟩,by rw [KV.vI_at hc];exact hv⟩
 ·obtain ⟨h2,htk,hv⟩:=hr
  obtain ⟨c,hc,hct⟩:=aaU.tk_iff.1 htk;rw [KV.vI_at hc] at hv;obtain ⟨g1,g2⟩:=ht.at_ r c D h2 hc hct (by simp) (by rw [hv];exact hD);obtain ⟨p,hp,e⟩:=List.mem_map.1 ((hk (nkp c)).2 g1);refine List.mem_map.2 ⟨p,hp,?_⟩;have h1:=hat p hp .nil;rw [e,g2] at h1
  simp at h1
  simp [<- h1]
set_option maxRecDepth 100000 in
set_option maxHeartbeats 800000 in
theorem aD1 (Bm b nn:Nat) (D:DM) (w:World) (hBm:Bm<w.heap.size) (hm:w.cell? ⟨Bm,0,none⟩=some (.map (some b))) (ab3:w.ownsMap Tryz.prog 142 (plainElem Tryz.prog 77) b nn D) (hsz:Maps.size D<=1048576) (hbd:∀ l,amd D l->l.length<=1048576) :
  Calls Tryz.prog 215 #[.func (.func 227) #[] #[.pointer (some ⟨Bm,0,none⟩)]] w fun e w'=>aGP D w e w':=by
 have HC:=Lib.hid (az4 Bm b nn D w hBm hm ab3 hsz);have HBD:=Lib.hid hbd;clear hm ab3 hbd
 go_enter Tryz.func215,Tryz.ntmps215
 go_wp2_with fail;refine HC.out.mono ?_;rintro e w1 hE;obtain ⟨v,l,rfl,hl,hr,hB⟩:=hE.ex;have HL:=Lib.hid (And.intro hl (And.intro hr (aHq hB (Nat.le_refl _))));obtain ⟨a,c,rfl,_⟩:=abI hr;have hll:=HBD.out l hl;have HS:=Lib.hid (aHK w.heap.size _ l w1 hr hll);clear hE hl hr hB HC;go_wp2_with fail;refine HS.out.mono ?_;rintro e w2 ⟨rfl,l',hp,abP,hu⟩;have hlen:=hp.length_eq
 have HE:Hid (aGP D w (.returned (.slice a l.length c)) w2):=by
  rw [<- hlen] at abP
  exact ⟨a,c,l',l,by rw [hlen],HL.out.1,hp,by rw [hlen] at abP ⊢;exact abP,HL.out.2.2.then hu fun k hk=>.inr (by
   have:=(HL.out.2.1.lt k (by simpa using hk)).1
   exact this)⟩
 clear hp abP hu hlen HS;go_wp2_with fail;go_ret;exact HE.out
set_option maxRecDepth 100000 in
set_option maxHeartbeats 800000 in
theorem aHL (tb:Nat) (F:List Nat) (x:Nat) (T:List DM) (K:KV) (w:World) (h:afl w tb T F) (ht:afg T K []) (hw:K.Wf []) (hx:x<K.vars) :
  Calls Tryz.prog 187 #[.pointer (some ⟨tb,0,none⟩),.int .i64 x] w fun e w'=>aGD K x w e w':=by
 have hlt:x<T.length:=by rw [ht.len];exact hx
 have hv:T[x]?=some T[x]:=List.getElem?_eq_getElem hlt;generalize T[x]=D at hv;obtain ⟨g,cap,m,t1,t2,t3,c0,c1,ab3⟩:=h.cells hv;have hsz:Maps.size D<=1048576:=ht.size hw hv (ab3.canon adh) (ab3.tidy adh);have hbd:=h.bd
 have hbl:∀ l,amd D l->l.length<=1048576:=fun l hl=>by
  obtain ⟨rs,rfl,hn,hm⟩:=hl.refs ht hv;rw [List.length_map]
  have h1:rs.length<=(List.range 1048576).length:=List.Nodup.length_le_of_subset hn fun r hr=>by
   have h2:=aaU.tk_lt ((hm r).1 hr).2.1;have h3:=hw.ok.lp;have h4:=hw.ok.pm;exact List.mem_range.2 (by omega)
  simpa using h1
 have HT:=Lib.hid h;have HO:=Lib.hid ab3;have HTI:=Lib.hid (And.intro ht (And.intro hw (And.intro hv hbl)))
 have hvi:(x:Int)<(T.length:Int):=by omega
 clear h ab3 t1 t2 t3 hv ht hw hbl
 go_enter Tryz.func187,Tryz.ntmps187
 go_wp2_with fail;refine (aoa tb F x T _ HT.out (by omega) (by omega)).mono ?_;rintro e w1 ⟨rfl,rfl⟩;go_wp2_with fail;refine (aCn (some m) _).mono ?_;rintro e w2 ⟨rfl,rfl⟩;have hb:=heap_alloc_new w (.cells #[.map (some m)] 219 (0,0));have HM:=Lib.hid (aev HO.out (((Upd.refl [] w).alloc (.cells #[.map (some m)] 219)).block m HO.out.lt (by simp)));have HCL:Hid ((w.alloc (.cells #[.map (some m)] 219)).cell? ⟨w.heap.size,0,none⟩=some (.map (some m))):=aac hb rfl;clear hb;go_wp2_with fail;refine (aD1 w.heap.size m _ D _ (by simp) HCL.out HM.out hsz HTI.out.2.2.2).mono ?_;rintro e w3 hE;obtain ⟨a,c,l,l0,rfl,hl0,hp,abP,hu⟩:=hE.ex
 have HE:Hid (aGD K x w (.returned (.tuple #[.slice a l.length c,.int .i64 0])) w3):=by
  obtain ⟨rs,e,hn,hm⟩:=hl0.refs HTI.out.1 HTI.out.2.2.1;subst e
  have hp2:(l.map Int.toNat).Perm rs:=by
   have:=hp.map Int.toNat;rw [List.map_map] at this
   have e2:rs.map (Int.toNat ∘ fun r:Nat=>(r:Int))=rs:=by
    conv=>rhs;rw [<- List.map_id rs]
    exact List.map_congr_left fun r _=>by simp
   rw [e2] at this;exact this
  have e3:ach (l.map Int.toNat)=l.map (Value.int .u32):=by
   unfold ach;rw [List.map_map]
   refine List.map_congr_left fun z hz=>?_
   obtain ⟨r,_,rfl⟩:=List.mem_map.1 (hp.subset hz);rfl
  refine ⟨l.map Int.toNat,a,c,by simp,hp2.symm.nodup hn,fun r=>by rw [hp2.mem_iff];exact hm r,?_,((Upd.refl [] w).alloc _).trans hu⟩;rw [List.length_map,e3];exact aet abP (by rw [World.size_alloc];omega)
 clear hE hl0 hp abP hu;go_wp2_with fail;go_ret2;exact HE.out
theorem aBP (b l:Nat) (K:KV) (T:List DM) (q:abM) (w:World) (h:afF w b K T q) (hl:l+2<=K.vars) :
  Calls Tryz.prog 79 #[.pointer (some ⟨b,0,none⟩),.int .i64 l] w fun e w'=>aCt b l K q w e w' :=
 aHA b l K T q w h hl fun w0 u=>aHL q.t q.FT _ T K w0 (h.mem.tab.upd u (by simp)) h.ti h.ok.wf (h.ok.ord.pm.oo l (by omega)).1
end Go.Proofs.YtdackeldhdchaaaGreat
