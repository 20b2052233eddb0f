import Derived.Test.YtdackeldhdchaaaGreatPR1
import Derived.Test.YtdackeldhdchaaaGreatPR20
import Derived.Test.YtdackeldhdchaaaGreatPR21
import Derived.Test.YtdackeldhdchaaaGreatPR22
import Derived.Test.YtdackeldhdchaaaGreatPR23
import Derived.Sort.Grow
import Derived.Sort.LotD3
import Derived.Sort.LotD4
import Derived.Sort.LotB
import Derived.Deep.Cut
import Derived.Sort.Row
import Derived.Sort.AssemblyPlain
namespace Go.Sort
variable {α : Type} [Inhabited α]
def At (enc:α->Value) (w:World) (blk off:Nat) (d:Array α) (wr:World):Prop:=∃ n os,wr=grow (putRow enc (ahead w n) blk off d) os
section
variable {enc:α->Value} {w wr w1:World} {blk off:Nat} {d d' d0:Array α}
theorem At.refl (h:Holds enc w blk off d):At enc w blk off d w:=⟨0,#[],by rw [grow_empty,ahead_zero,putRow_self enc w blk off d h]⟩
theorem At.holds (h:At enc w blk off d wr) (h0:Holds enc w blk off d0) (hs:d.size=d0.size) (hb:blk<w.heap.size):Holds enc wr blk off d/\blk<wr.heap.size:=by
 obtain ⟨n,os,rfl⟩:=h;exact ⟨holds_grow enc _ os blk off d (by simpa using hb) (holds_putRow enc _ blk off d0 d (holds_ahead enc w n blk off d0 h0) hs),by simp;omega⟩
theorem At.step (h:At enc w blk off d wr) (hb:blk<w.heap.size) (hs:d'.size=d.size) (h1:∃ m,w1=putRow enc (ahead wr m) blk off d'):At enc w blk off d' w1:=by
 obtain ⟨n,os,rfl⟩:=h;obtain ⟨m,rfl⟩:=h1;exact ⟨n+m,os,grow_step enc w os n m blk off d d' hb hs⟩
theorem At.stepG (h:At enc w blk off d wr) (hb:blk<w.heap.size) (hs:d'.size=d.size) (h1:∃ m QN,w1=grow (putRow enc (ahead wr m) blk off d') QN):At enc w blk off d' w1:=by
 obtain ⟨n,os,rfl⟩:=h;obtain ⟨m,QN,rfl⟩:=h1;exact ⟨n+m,os++QN,grow_step_grow enc w os QN n m blk off d d' hb hs⟩
theorem At.same (h:At enc w blk off d wr) (h0:Holds enc w blk off d0) (hs:d.size=d0.size) (hb:blk<w.heap.size) (h1:∃ m QN,w1=grow (ahead wr m) QN):At enc w blk off d w1:=by
 obtain ⟨m,QN,rfl⟩:=h1;refine h.stepG hb rfl ⟨m,QN,?_⟩;rw [putRow_self enc (ahead wr m) blk off d (holds_ahead enc wr m blk off d (h.holds h0 hs hb).1)]
theorem At.ahead (h:At enc w blk off d wr) (m:Nat):At enc w blk off d (ahead wr m):=by
 obtain ⟨n,os,rfl⟩:=h;exact ⟨n+m,os,by rw [<- ahead_ahead];rfl⟩
end
section
variable (lt:α->α->Bool)
structure Rd (α : Type) where
 d1:Array α
 lim:Nat
 c:Nat × Hint
 d2:Array α
 pivot:Nat
 hint:Hint
 pi:Array α × Bool
def rd (d:Array α) (a b limit:Nat) (wb wp:Bool):Rd α :=
  let d1:=if !wb then breakPatterns d a b else d
  let c:=choosePivot lt d1 a b
  let d2:=if c.2=.decreasing then reverseRange d1 a b else d1
  let hint:=if c.2=.decreasing then Hint.increasing else c.2
  { d1:=d1,lim:=if !wb then limit - 1 else limit,c:=c,d2:=d2,pivot:=if c.2=.decreasing then (b - 1) - (c.1 - a) else c.1,hint:=hint,
    pi:=if wb && wp && hint=.increasing then partialInsertionSort lt d2 a b else (d2,false) }
variable {lt} {d:Array α} {a b limit:Nat} {wb wp:Bool}
theorem iR:pdq lt d a b limit wb wp =
  if b-a<=12 then insertionSort lt d a b else
  if limit=0 then heapSort lt d a b else
  if (rd lt d a b limit wb wp).pi.2=true then (rd lt d a b limit wb wp).pi.1 else
  if (decide (a > 0)&&!lt (rd lt d a b limit wb wp).pi.1[a-1]! (rd lt d a b limit wb wp).pi.1[(rd lt d a b limit wb wp).pivot]!)=true then
   (if a<(partitionEqual lt (rd lt d a b limit wb wp).pi.1 a b (rd lt d a b limit wb wp).pivot).1/\(partitionEqual lt (rd lt d a b limit wb wp).pi.1 a b (rd lt d a b limit wb wp).pivot).1<=b then pdq lt (partitionEqual lt (rd lt d a b limit wb wp).pi.1 a b (rd lt d a b limit wb wp).pivot).2 (partitionEqual lt (rd lt d a b limit wb wp).pi.1 a b (rd lt d a b limit wb wp).pivot).1 b (rd lt d a b limit wb wp).lim wb wp else (partitionEqual lt (rd lt d a b limit wb wp).pi.1 a b (rd lt d a b limit wb wp).pivot).2)
  else
   (if a<=(partition lt (rd lt d a b limit wb wp).pi.1 a b (rd lt d a b limit wb wp).pivot).1/\(partition lt (rd lt d a b limit wb wp).pi.1 a b (rd lt d a b limit wb wp).pivot).1<b then
    (if (partition lt (rd lt d a b limit wb wp).pi.1 a b (rd lt d a b limit wb wp).pivot).1-a<b-(partition lt (rd lt d a b limit wb wp).pi.1 a b (rd lt d a b limit wb wp).pivot).1 then
     pdq lt (pdq lt (partition lt (rd lt d a b limit wb wp).pi.1 a b (rd lt d a b limit wb wp).pivot).2.2 a (partition lt (rd lt d a b limit wb wp).pi.1 a b (rd lt d a b limit wb wp).pivot).1 (rd lt d a b limit wb wp).lim true true) ((partition lt (rd lt d a b limit wb wp).pi.1 a b (rd lt d a b limit wb wp).pivot).1+1) b (rd lt d a b limit wb wp).lim (decide ((partition lt (rd lt d a b limit wb wp).pi.1 a b (rd lt d a b limit wb wp).pivot).1-a ≥ (b-a)/8)) (partition lt (rd lt d a b limit wb wp).pi.1 a b (rd lt d a b limit wb wp).pivot).2.1
    else
     pdq lt (pdq lt (partition lt (rd lt d a b limit wb wp).pi.1 a b (rd lt d a b limit wb wp).pivot).2.2 ((partition lt (rd lt d a b limit wb wp).pi.1 a b (rd lt d a b limit wb wp).pivot).1+1) b (rd lt d a b limit wb wp).lim true true) a (partition lt (rd lt d a b limit wb wp).pi.1 a b (rd lt d a b limit wb wp).pivot).1 (rd lt d a b limit wb wp).lim (decide (b-(partition lt (rd lt d a b limit wb wp).pi.1 a b (rd lt d a b limit wb wp).pivot).1 ≥ (b-a)/8)) (partition lt (rd lt d a b limit wb wp).pi.1 a b (rd lt d a b limit wb wp).pivot).2.1)
   else (partition lt (rd lt d a b limit wb wp).pi.1 a b (rd lt d a b limit wb wp).pivot).2.2):=by
 rw [pdq];rfl
theorem Ih (h:b-a<=12):pdq lt d a b limit wb wp=insertionSort lt d a b:=by rw [iR,if_pos h]
theorem LC (h:¬ b-a<=12) (h0:limit=0):pdq lt d a b limit wb wp=heapSort lt d a b:=by rw [iR,if_neg h,if_pos h0]
theorem LD (h:¬ b-a<=12) (h0:¬ limit=0) (h1:(rd lt d a b limit wb wp).pi.2=true):pdq lt d a b limit wb wp=(rd lt d a b limit wb wp).pi.1:=by rw [iR,if_neg h,if_neg h0,if_pos h1]
theorem TE (h:¬ b-a<=12) (h0:¬ limit=0) (h1:(rd lt d a b limit wb wp).pi.2=false) (h2:(decide (a > 0)&&!lt (rd lt d a b limit wb wp).pi.1[a-1]! (rd lt d a b limit wb wp).pi.1[(rd lt d a b limit wb wp).pivot]!)=true) (h3:a<(partitionEqual lt (rd lt d a b limit wb wp).pi.1 a b (rd lt d a b limit wb wp).pivot).1/\(partitionEqual lt (rd lt d a b limit wb wp).pi.1 a b (rd lt d a b limit wb wp).pivot).1<=b) :
  pdq lt d a b limit wb wp=pdq lt (partitionEqual lt (rd lt d a b limit wb wp).pi.1 a b (rd lt d a b limit wb wp).pivot).2 (partitionEqual lt (rd lt d a b limit wb wp).pi.1 a b (rd lt d a b limit wb wp).pivot).1 b (rd lt d a b limit wb wp).lim wb wp:=by
 rw [iR,if_neg h,if_neg h0,if_neg (by rw [h1];exact Bool.false_ne_true),if_pos h2,if_pos h3]
theorem LG (h:¬ b-a<=12) (h0:¬ limit=0) (h1:(rd lt d a b limit wb wp).pi.2=false) (h2:(decide (a > 0)&&!lt (rd lt d a b limit wb wp).pi.1[a-1]! (rd lt d a b limit wb wp).pi.1[(rd lt d a b limit wb wp).pivot]!)=false) (h3:a<=(partition lt (rd lt d a b limit wb wp).pi.1 a b (rd lt d a b limit wb wp).pivot).1/\(partition lt (rd lt d a b limit wb wp).pi.1 a b (rd lt d a b limit wb wp).pivot).1<b) (h4:(partition lt (rd lt d a b limit wb wp).pi.1 a b (rd lt d a b limit wb wp).pivot).1-a<b-(partition lt (rd lt d a b limit wb wp).pi.1 a b (rd lt d a b limit wb wp).pivot).1) :
  pdq lt d a b limit wb wp=pdq lt (pdq lt (partition lt (rd lt d a b limit wb wp).pi.1 a b (rd lt d a b limit wb wp).pivot).2.2 a (partition lt (rd lt d a b limit wb wp).pi.1 a b (rd lt d a b limit wb wp).pivot).1 (rd lt d a b limit wb wp).lim true true) ((partition lt (rd lt d a b limit wb wp).pi.1 a b (rd lt d a b limit wb wp).pivot).1+1) b (rd lt d a b limit wb wp).lim (decide ((partition lt (rd lt d a b limit wb wp).pi.1 a b (rd lt d a b limit wb wp).pivot).1-a ≥ (b-a)/8)) (partition lt (rd lt d a b limit wb wp).pi.1 a b (rd lt d a b limit wb wp).pivot).2.1:=by
 rw [iR,if_neg h,if_neg h0,if_neg (by rw [h1];exact Bool.false_ne_true),if_neg (by rw [h2];exact Bool.false_ne_true),if_pos h3,if_pos h4]
theorem Ii (h:¬ b-a<=12) (h0:¬ limit=0) (h1:(rd lt d a b limit wb wp).pi.2=false) (h2:(decide (a > 0)&&!lt (rd lt d a b limit wb wp).pi.1[a-1]! (rd lt d a b limit wb wp).pi.1[(rd lt d a b limit wb wp).pivot]!)=false) (h3:a<=(partition lt (rd lt d a b limit wb wp).pi.1 a b (rd lt d a b limit wb wp).pivot).1/\(partition lt (rd lt d a b limit wb wp).pi.1 a b (rd lt d a b limit wb wp).pivot).1<b) (h4:¬ (partition lt (rd lt d a b limit wb wp).pi.1 a b (rd lt d a b limit wb wp).pivot).1-a<b-(partition lt (rd lt d a b limit wb wp).pi.1 a b (rd lt d a b limit wb wp).pivot).1) :
  pdq lt d a b limit wb wp=pdq lt (pdq lt (partition lt (rd lt d a b limit wb wp).pi.1 a b (rd lt d a b limit wb wp).pivot).2.2 ((partition lt (rd lt d a b limit wb wp).pi.1 a b (rd lt d a b limit wb wp).pivot).1+1) b (rd lt d a b limit wb wp).lim true true) a (partition lt (rd lt d a b limit wb wp).pi.1 a b (rd lt d a b limit wb wp).pivot).1 (rd lt d a b limit wb wp).lim (decide (b-(partition lt (rd lt d a b limit wb wp).pi.1 a b (rd lt d a b limit wb wp).pivot).1 ≥ (b-a)/8)) (partition lt (rd lt d a b limit wb wp).pi.1 a b (rd lt d a b limit wb wp).pivot).2.1:=by
 rw [iR,if_neg h,if_neg h0,if_neg (by rw [h1];exact Bool.false_ne_true),if_neg (by rw [h2];exact Bool.false_ne_true),if_pos h3,if_neg h4]
theorem TF (hh:(rd lt d a b limit wb wp).c.2=.decreasing) :
  (rd lt d a b limit wb wp).d2=reverseRange (rd lt d a b limit wb wp).d1 a b/\(rd lt d a b limit wb wp).pivot=(b-1)-((rd lt d a b limit wb wp).c.1-a)/\(rd lt d a b limit wb wp).hint=.increasing:=⟨if_pos hh,if_pos hh,if_pos hh⟩
theorem TG (hh:(rd lt d a b limit wb wp).c.2≠.decreasing) :
  (rd lt d a b limit wb wp).d2=(rd lt d a b limit wb wp).d1/\(rd lt d a b limit wb wp).pivot=(rd lt d a b limit wb wp).c.1/\(rd lt d a b limit wb wp).hint=(rd lt d a b limit wb wp).c.2:=⟨if_neg hh,if_neg hh,if_neg hh⟩
theorem Ij (hc:(wb&&wp&&decide ((rd lt d a b limit wb wp).hint=.increasing))=true):(rd lt d a b limit wb wp).pi=partialInsertionSort lt (rd lt d a b limit wb wp).d2 a b:=if_pos hc
theorem LH (hc:(wb&&wp&&decide ((rd lt d a b limit wb wp).hint=.increasing))=false):(rd lt d a b limit wb wp).pi=((rd lt d a b limit wb wp).d2,false):=if_neg (fun h=>Bool.false_ne_true (hc.symm.trans h))
theorem kM:(rd lt d a b limit wb wp).lim<=limit:=by
 show (if (!wb)=true then limit-1 else limit)<=limit
 split <;> omega
theorem LJ (h:SWO lt) (hpi:partialInsertionSort_stmt lt) (hrev:reverseRange_stmt α) (tJ:a<b) (hb:b<=d.size) (hB:Below lt a b d) :
  (rd lt d a b limit wb wp).d1.size=d.size/\Below lt a b (rd lt d a b limit wb wp).d1/\(a<=(rd lt d a b limit wb wp).c.1/\(rd lt d a b limit wb wp).c.1<b) /\
  (rd lt d a b limit wb wp).d2.size=d.size/\Below lt a b (rd lt d a b limit wb wp).d2/\(a<=(rd lt d a b limit wb wp).pivot/\(rd lt d a b limit wb wp).pivot<b) /\
  (rd lt d a b limit wb wp).pi.1.size=d.size/\Below lt a b (rd lt d a b limit wb wp).pi.1:=by
 have p1:PermIn a b d (rd lt d a b limit wb wp).d1:=step_break d (Nat.le_of_lt tJ) hb ((!wb)=true);have s1:=p1.1;have B1:=hB.perm hb p1;have c1:a<=(rd lt d a b limit wb wp).c.1/\(rd lt d a b limit wb wp).c.1<b:=choosePivot_holds lt (rd lt d a b limit wb wp).d1 a b tJ;have p2:PermIn a b (rd lt d a b limit wb wp).d1 (rd lt d a b limit wb wp).d2:=step_reverse hrev (rd lt d a b limit wb wp).d1 (Nat.le_of_lt tJ) (by rw [s1];exact hb) ((rd lt d a b limit wb wp).c.2=.decreasing);have s2:=p2.1.trans s1;have B2:=B1.perm (by rw [s1];exact hb) p2;have pv:a<=(rd lt d a b limit wb wp).pivot/\(rd lt d a b limit wb wp).pivot<b:=pivot_range c1.1 c1.2 ((rd lt d a b limit wb wp).c.2=.decreasing);have p3:PermIn a b (rd lt d a b limit wb wp).d2 (rd lt d a b limit wb wp).pi.1:=(step_partial hpi h (rd lt d a b limit wb wp).d2 tJ (by rw [s2];exact hb) B2 ((wb&&wp&&decide ((rd lt d a b limit wb wp).hint=.increasing))=true)).1;exact ⟨s1,B1,c1,s2,B2,pv,p3.1.trans s2,B2.perm (by rw [s2];exact hb) p3⟩
end
end Go.Sort
namespace Go.Proofs.YtdackeldhdchaaaGreat.Srt
open Go.Sort Go.RowKit
structure yZ:Prop where
 ins:∀ (blk off cap a b:Nat) (d:Array Int) (w:World),Holds (Value.int .u32) w blk off d->a<=b->b<=d.size->d.size<4611686018427387904 ->
  Calls Tryz.prog 232 #[.slice (some ⟨blk,off,none⟩) d.size cap,.int .i64 a,.int .i64 b] w fun e w'=>e=.returned (.tuple #[])/\∃ n,w'=putRow (Value.int .u32) (Sort.ahead w n) blk off (insertionSort ltInt d a b)
 brk:∀ (blk off cap a b:Nat) (d:Array Int) (w:World),Holds (Value.int .u32) w blk off d->blk<w.heap.size->a<=b->b<=d.size->d.size<4611686018427387904 ->
  Calls Tryz.prog 234 #[.slice (some ⟨blk,off,none⟩) d.size cap,.int .i64 a,.int .i64 b] w fun e w'=>e=.returned (.tuple #[])/\∃ n os,w'=grow (putRow (Value.int .u32) (Sort.ahead w n) blk off (breakPatterns d a b)) os
 piv:∀ (blk off cap a b:Nat) (d:Array Int) (w:World),Holds (Value.int .u32) w blk off d->blk<w.heap.size->a<b->b<=d.size->d.size<4611686018427387904 ->
  Calls Tryz.prog 235 #[.slice (some ⟨blk,off,none⟩) d.size cap,.int .i64 a,.int .i64 b] w fun e w'=>e=.returned (.tuple #[.int .i64 (choosePivot ltInt d a b).1,.int .i64 (hintCode (choosePivot ltInt d a b).2)])/\∃ n os,w'=grow (Sort.ahead w n) os
 par:∀ (blk off cap a b:Nat) (d:Array Int) (w:World),Holds (Value.int .u32) w blk off d->a<b->b<=d.size->d.size<4611686018427387904 ->
  Calls Tryz.prog 237 #[.slice (some ⟨blk,off,none⟩) d.size cap,.int .i64 a,.int .i64 b] w fun e w'=>e=.returned (.bool (partialInsertionSort ltInt d a b).2)/\∃ n,w'=putRow (Value.int .u32) (Sort.ahead w n) blk off (partialInsertionSort ltInt d a b).1
 peq:∀ (blk off cap a b pivot:Nat) (d:Array Int) (w:World),Holds (Value.int .u32) w blk off d->a<=pivot->pivot<b->b<=d.size->d.size<4611686018427387904 ->
  Calls Tryz.prog 239 #[.slice (some ⟨blk,off,none⟩) d.size cap,.int .i64 a,.int .i64 b,.int .i64 pivot] w fun e w'=>e=.returned (.int .i64 (partitionEqual ltInt d a b pivot).1)/\∃ n,w'=putRow (Value.int .u32) (Sort.ahead w n) blk off (partitionEqual ltInt d a b pivot).2
 prt:∀ (blk off cap a b pivot:Nat) (d:Array Int) (w:World),Holds (Value.int .u32) w blk off d->a<=pivot->pivot<b->b<=d.size->d.size<4611686018427387904 ->
  Calls Tryz.prog 240 #[.slice (some ⟨blk,off,none⟩) d.size cap,.int .i64 a,.int .i64 b,.int .i64 pivot] w fun e w'=>e=.returned (.tuple #[.int .i64 (partition ltInt d a b pivot).1,.bool (partition ltInt d a b pivot).2.1])/\∃ n,w'=putRow (Value.int .u32) (Sort.ahead w n) blk off (partition ltInt d a b pivot).2.2
structure Gs:Prop where
 swo:SWO ltInt
 ins:insertionSort_stmt ltInt
 par:partialInsertionSort_stmt ltInt
 prt:partition_stmt ltInt
 peq:partitionEqual_stmt ltInt
 pdq:pdq_stmt ltInt
theorem Aj {h:Hint} (e:hintCode h=2):h=.decreasing:=by cases h <;> simp [hintCode] at e ⊢
theorem LK {x y p q:Nat} (h1:q<=p) (h2:y<=x):decide (((x:Int)-(y:Int))/8<=(p:Int)-(q:Int))=decide (p-q ≥ (x-y)/8) :=
 decide_eq_decide.2 ⟨fun h=>by omega,fun h=>by omega⟩
set_option maxHeartbeats 6400000 in
set_option maxRecDepth 1000000 in
theorem SoR.pdqsort_int (C:yZ) (S:Gs):∀ (N blk off cap a b limit:Nat) (d:Array Int) (w:World),b - a < N→Holds (Value.int .u32) w blk off d→blk < w.heap.size→a≤b→b≤d.size→d.size < 4611686018427387904→limit < 4611686018427387904→Below ltInt a b d →
    Calls Tryz.prog 230 #[.slice (some ⟨blk,off,none⟩) d.size cap,.int .i64 a,.int .i64 b,.int .i64 limit] w fun e w'=>e=.returned (.tuple #[])∧At (Value.int .u32) w blk off (pdq ltInt d a b limit true true) w':=by
  intro N
  induction N with
  | zero=>intro _ _ _ _ _ _ _ _ h; exact absurd h (Nat.not_lt_zero _)
  | succ N ih =>
    intro blk off cap a b limit d w hN hH gy tJ hb df LM Xa
    go_enter Tryz.func230,Tryz.ntmps230
    go_wp2
    go_loopg [1,2,3,8,9] (b - a) (fun k s1 s2 s3 s8 s9 wr=>∃ (a' b' lim:Nat) (wb wp:Bool) (dk:Array Int),s1=.int .i64 a'∧s2=.int .i64 b'∧s3=.int .i64 lim∧s8=.bool wb∧s9=.bool wp ∧
      a'≤b'∧b'≤d.size∧b' - a'≤k∧k≤b - a∧lim≤limit∧dk.size=d.size∧Below ltInt a' b' dk∧At (Value.int .u32) w blk off dk wr∧pdq ltInt dk a' b' lim wb wp=pdq ltInt d a b limit true true)
    case atStart=>exact ⟨a,b,limit,true,true,d,rfl,rfl,rfl,rfl,rfl,tJ,hb,Nat.le_refl _,Nat.le_refl _,Nat.le_refl _,rfl,Xa,At.refl hH,rfl⟩
    case round =>
      obtain ⟨a',b',lim,wb,wp,dk,rfl,rfl,rfl,rfl,rfl,Ik,H8,hk,hkN,hlim,nJ,abb,Xb,heq⟩:=hrel;obtain ⟨rZ,Xc⟩:=Xb.holds hH nJ gy;have A:Aside (pdq ltInt dk a' b' lim wb wp=pdq ltInt d a b limit true true):=heq;clear heq
      by_cases U9:b' - a'≤12
      · -- 'if length <= maxInsertion'
        have abd:(b':Int) - (a':Int)≤12:=by omega
        have hc:=C.ins blk off cap a' b' dk wr rZ Ik (by omega) (by omega);rw [nJ] at hc
        go_wp2_with (go_at_call 232; refine hc.mono ?_; rintro e w1 ⟨rfl,mg⟩)
        (try simp only [Exit.inBlock,Exit.then]); refine bodyPost_ret (results_none rfl _ _ _) rfl ?_
        refine ⟨rfl,?_⟩;rw [← A.out,Ih U9];exact Xb.step gy (S.ins S.swo dk a' b' Ik (by omega)).1.1 mg
      · have abd:¬ ((b':Int) - (a':Int)≤12):=by omega
        by_cases sW:lim=0
        · -- 'if limit == 0'
          subst sW;have hc:=SoR.heapSort_int blk off d.size cap dk nJ a' b' wr rZ Ik (by omega) (by omega)
          go_wp2_with (go_at_call 233; refine hc.mono ?_; rintro e w1 ⟨rfl,mg⟩)
          (try simp only [Exit.inBlock,Exit.then]); refine bodyPost_ret (results_none rfl _ _ _) rfl ?_
          refine ⟨rfl,?_⟩;rw [← A.out,LC U9 rfl];exact Xb.step gy (heapSort_holds S.swo dk a' b' Ik (by omega)).1.1 mg
        · have agO:¬ ((lim:Int)=0):=by omega
          obtain ⟨s1,B1,zJ,s2,B2,mr,s3,B3⟩:=LJ (limit:=lim) (wb:=wb) (wp:=wp) S.swo S.par reverseRange_holds (show a' < b' by omega) (show b'≤dk.size by omega) abb;go_upto_if 35 with fail
          go_cut [3] from 19 (fun s3 wc=>s3=.int .i64 (rd ltInt dk a' b' lim wb wp).lim∧At (Value.int .u32) w blk off (rd ltInt dk a' b' lim wb wp).d1 wc)
          case first =>
            cases wb
            · have hc:=C.brk blk off cap a' b' dk wr rZ Xc Ik (by omega) (by omega)
              rw [nJ] at hc
              go_wp2_with (go_at_call 234; refine hc.mono ?_; rintro e w1 ⟨rfl,mg⟩)
              go_meet
              case rel =>
                refine ⟨?_,Xb.stepG gy s1 mg⟩
                show Value.int .i64 ((lim:Int) - 1)=Value.int .i64 ((lim - 1:Nat):Int)
                congr 1
                omega
            · go_wp2_with fail
              go_meet
              case rel=>exact ⟨rfl,Xb⟩
          case rest =>
            obtain ⟨rfl,Xd⟩:=hcut;obtain ⟨hH1,Xe⟩:=Xd.holds hH (s1.trans nJ) gy
            have abe:Calls Tryz.prog 235 #[.slice (some ⟨blk,off,none⟩) d.size cap,.int .i64 a',.int .i64 b'] wc fun e w'=>e=.returned (.tuple #[.int .i64 (rd ltInt dk a' b' lim wb wp).c.1,.int .i64 (hintCode (rd ltInt dk a' b' lim wb wp).c.2)])∧∃ n os,w'=grow (Sort.ahead wc n) os:=by
              have:=C.piv blk off cap a' b' (rd ltInt dk a' b' lim wb wp).d1 wc hH1 Xe (by omega) (by omega) (by omega);rw [s1,nJ] at this;exact this
            go_upto_if 50 with (go_at_call 235; refine abe.mono ?_; rintro e w2 ⟨rfl,eQ⟩)
            have TI:At (Value.int .u32) w blk off (rd ltInt dk a' b' lim wb wp).d1 w2:=Xd.same hH (s1.trans nJ) gy eQ;obtain ⟨hH2,adX⟩:=TI.holds hH (s1.trans nJ) gy
            go_cut [11,12] from 19 (fun s11 s12 wc=>s11=.int .i64 (rd ltInt dk a' b' lim wb wp).pivot∧s12=.int .i64 (hintCode (rd ltInt dk a' b' lim wb wp).hint)∧At (Value.int .u32) w blk off (rd ltInt dk a' b' lim wb wp).d2 wc)
            case first =>
              by_cases hh:(rd ltInt dk a' b' lim wb wp).c.2=.decreasing
              · have CQ:hintCode (rd ltInt dk a' b' lim wb wp).c.2=2:=by rw [hh]; rfl
                obtain ⟨e2,epv,eht⟩:=TF hh;have Xf:=SoR.reverseRange_int blk off cap (rd ltInt dk a' b' lim wb wp).d1 a' b' w2 hH2 Ik (by omega) (by omega);rw [s1,nJ] at Xf
                go_wp2_with (go_at_call 236; refine Xf.mono ?_; rintro e w3 ⟨rfl,fU⟩)
                go_meet
                case rel =>
                  refine ⟨?_,by rw [eht]; rfl,by rw [e2]; exact TI.step gy (by rw [← e2,s2,s1]) fU⟩;rw [epv]
                  congr 1
                  omega
              · have CQ:¬ (hintCode (rd ltInt dk a' b' lim wb wp).c.2=2):=fun h=>hh (Aj h)
                obtain ⟨e2,epv,eht⟩:=TG hh;go_wp2_with fail;go_meet
                case rel=>exact ⟨by rw [epv],by rw [eht],by rw [e2]; exact TI⟩
            case rest =>
              obtain ⟨rfl,rfl,Pm⟩:=hcut;obtain ⟨hH3,adY⟩:=Pm.holds hH (s2.trans nJ) gy;go_upto_region 15 with fail
              go_cut [12,68] from 19 (fun s12 s68 wx=>s12=.int .i64 (hintCode (rd ltInt dk a' b' lim wb wp).hint)∧s68=.bool (wb && wp && decide ((rd ltInt dk a' b' lim wb wp).hint=.increasing))∧wx=wc)
              case first =>
                cases wb <;> cases wp <;> cases UX:(rd ltInt dk a' b' lim _ _).hint <;>
                  (have TJ:=congrArg hintCode UX
                   simp only [hintCode] at TJ
                   go_wp2_with fail;go_meet
                   exact ⟨by simp [UX,hintCode],by simp [UX,hintCode],rfl⟩)
              case rest =>
                obtain ⟨rfl,rfl,rfl⟩:=hcut;go_upto_if 68 with fail
                go_cut [] from 19 (fun wx=>(rd ltInt dk a' b' lim wb wp).pi.2=false∧At (Value.int .u32) w blk off (rd ltInt dk a' b' lim wb wp).pi.1 wx)
                case first =>
                  cases h68:(wb && wp && decide ((rd ltInt dk a' b' lim wb wp).hint=.increasing))
                  · have Va:=LH h68
                    go_wp2_with fail;go_meet
                    case rel=>exact ⟨by rw [Va],by rw [Va]; exact Pm⟩
                  · have Va:=Ij h68
                    have Xg:=C.par blk off cap a' b' (rd ltInt dk a' b' lim wb wp).d2 wc hH3 (by omega) (by omega) (by omega);rw [s2,nJ,← Va] at Xg
                    go_wp2_with (go_at_call 237; refine Xg.mono ?_; rintro e w4 ⟨rfl,hw4⟩)
                    all_goals first
                      | (have EO:(rd ltInt dk a' b' lim wb wp).pi.2=false:=by rw [Va]; assumption
                         go_meet
                         exact ⟨EO,Pm.step gy (by rw [s3,s2]) hw4⟩)
                      | (have EO:(rd ltInt dk a' b' lim wb wp).pi.2=true:=by rw [Va]; assumption
                         (try simp only [Exit.inBlock,Exit.then]); refine bodyPost_ret (results_none rfl _ _ _) rfl ?_
                         refine ⟨rfl,?_⟩;rw [← A.out,LD U9 sW EO]
                         exact Pm.step gy (by rw [s3,s2]) hw4)
                case rest =>
                  obtain ⟨EO,TK⟩:=hcut;obtain ⟨hH5,ad2⟩:=TK.holds hH (s3.trans nJ) gy
                  have kR:∀ t,t < d.size→wc.cell? ⟨blk,off + t,none⟩=some (.int .u32 (rd ltInt dk a' b' lim wb wp).pi.1[t]!):=fun t ht=>(hH5 t (by omega)).1
                  have DT:∀ t,t < d.size→wc.frozen? ⟨blk,off + t,none⟩=false:=fun t ht=>(hH5 t (by omega)).2
                  go_upto_region 17 with fail
                  go_cut [87] from 19 (fun s87 wx=>s87=.bool (decide (a' > 0) && !ltInt (rd ltInt dk a' b' lim wb wp).pi.1[a' - 1]! (rd ltInt dk a' b' lim wb wp).pi.1[(rd ltInt dk a' b' lim wb wp).pivot]!)∧At (Value.int .u32) w blk off (rd ltInt dk a' b' lim wb wp).pi.1 wx)
                  case first =>
                    rcases Nat.eq_zero_or_pos a' with ha0 | ha0
                    · have abh:decide ((a':Int) > 0)=false:=decide_eq_false (by omega)
                      go_big_quiet (first | (go_at_call 238; refine Calls.quiet_of_same (SoR.cmp_Less_int _ _ _)))
                      go_wp2_with fail;go_meet
                      case rel=>exact ⟨by simp [ha0],TK.ahead nq⟩
                    · have abh:(a':Int) > 0:=by omega
                      go_big_quiet (first | (go_at_call 238; refine Calls.quiet_of_same (SoR.cmp_Less_int _ _ _)))
                      go_wp2_with fail;go_meet
                      case rel=>exact ⟨by simp [ha0],TK.ahead nq⟩
                  case rest =>
                    obtain ⟨rfl,TM⟩:=hcut;obtain ⟨hH6,Gt⟩:=TM.holds hH (s3.trans nJ) gy;clear kR DT;cases h87:(decide (a' > 0) && !ltInt (rd ltInt dk a' b' lim wb wp).pi.1[a' - 1]! (rd ltInt dk a' b' lim wb wp).pi.1[(rd ltInt dk a' b' lim wb wp).pivot]!)
                    · -- ████ 'mid,alreadyPartitioned:=partitionOrdered(..)'; THE SMALLER SIDE BY A CALL OF ITSELF,the other by the next round
                      obtain ⟨mid,ap,d4,hx⟩ : ∃ mid ap d4,partition ltInt (rd ltInt dk a' b' lim wb wp).pi.1 a' b' (rd ltInt dk a' b' lim wb wp).pivot=(mid,ap,d4):=⟨(partition ltInt (rd ltInt dk a' b' lim wb wp).pi.1 a' b' (rd ltInt dk a' b' lim wb wp).pivot).1,(partition ltInt (rd ltInt dk a' b' lim wb wp).pi.1 a' b' (rd ltInt dk a' b' lim wb wp).pivot).2.1,(partition ltInt (rd ltInt dk a' b' lim wb wp).pi.1 a' b' (rd ltInt dk a' b' lim wb wp).pivot).2.2,rfl⟩;obtain ⟨r1,r2,r3,r4,r5,r6,r7⟩:=round_part S.swo S.prt mr.1 mr.2 (show b'≤(rd ltInt dk a' b' lim wb wp).pi.1.size by omega) B3 hx;have Xh:=C.prt blk off cap a' b' (rd ltInt dk a' b' lim wb wp).pivot (rd ltInt dk a' b' lim wb wp).pi.1 wc hH6 mr.1 mr.2 (by omega) (by omega);rw [s3,nJ,hx] at Xh;have X:Aside (partition ltInt (rd ltInt dk a' b' lim wb wp).pi.1 a' b' (rd ltInt dk a' b' lim wb wp).pivot=(mid,ap,d4)):=hx;clear hx
                      go_upto_if 113 with (go_at_call 240; refine Xh.mono ?_; rintro e w7 ⟨rfl,TN⟩)
                      have hx:=X.out;have TP:At (Value.int .u32) w blk off d4 w7:=TM.step gy r3 TN;obtain ⟨hH7,QO⟩:=TP.holds hH (r3.trans (s3.trans nJ)) gy
                      by_cases h4:mid - a' < b' - mid
                      · have h4z:(mid:Int) - (a':Int) < (b':Int) - (mid:Int):=by omega
                        have Xi:=ih blk off cap a' mid (rd ltInt dk a' b' lim wb wp).lim d4 w7 (by omega) hH7 QO (by omega) (by omega) (by omega) (Nat.lt_of_le_of_lt (Nat.le_trans kM hlim) LM) r4;rw [r3,s3,nJ] at Xi;obtain ⟨pL,sL⟩:=S.pdq S.swo d4 a' mid (rd ltInt dk a' b' lim wb wp).lim true true (by omega) (by omega) r4
                        go_wp2_with (go_at_call 230; refine Xi.mono ?_; rintro e w8 ⟨rfl,TQ⟩)
                        go_roundg (b' - (mid + 1))
                        case measure=>omega
                        case rel =>
                          refine ⟨mid + 1,b',(rd ltInt dk a' b' lim wb wp).lim,decide (mid - a' ≥ (b' - a') / 8),ap,pdq ltInt d4 a' mid (rd ltInt dk a' b' lim wb wp).lim true true,by simp,rfl,rfl,?_,rfl,by omega,by omega,Nat.le_refl _,by omega,Nat.le_trans kM hlim,by rw [pL.1,r3,s3,nJ],(r6 _ pL sL).1,TP.stepG gy pL.1 TQ,?_⟩
                          · exact congrArg Value.bool (LK (by omega) (by omega))
                          · rw [← A.out,LG U9 sW EO h87 (by rw [hx]; exact ⟨r1,r2⟩) (by rw [hx]; exact h4),hx]
                      · have h4z:¬ ((mid:Int) - (a':Int) < (b':Int) - (mid:Int)):=by omega
                        have Xi:=ih blk off cap (mid + 1) b' (rd ltInt dk a' b' lim wb wp).lim d4 w7 (by omega) hH7 QO (by omega) (by omega) (by omega) (Nat.lt_of_le_of_lt (Nat.le_trans kM hlim) LM) r5;rw [r3,s3,nJ] at Xi;obtain ⟨pL,sL⟩:=S.pdq S.swo d4 (mid + 1) b' (rd ltInt dk a' b' lim wb wp).lim true true (by omega) (by omega) r5
                        go_wp2_with (go_at_call 230; refine Xi.mono ?_; rintro e w8 ⟨rfl,TQ⟩)
                        go_roundg (mid - a')
                        case measure=>omega
                        case rel =>
                          refine ⟨a',mid,(rd ltInt dk a' b' lim wb wp).lim,decide (b' - mid ≥ (b' - a') / 8),ap,pdq ltInt d4 (mid + 1) b' (rd ltInt dk a' b' lim wb wp).lim true true,rfl,rfl,rfl,?_,rfl,by omega,by omega,Nat.le_refl _,by omega,Nat.le_trans kM hlim,by rw [pL.1,r3,s3,nJ],(r7 _ pL sL).1,TP.stepG gy pL.1 TQ,?_⟩
                          · exact congrArg Value.bool (LK (by omega) (by omega))
                          · rw [← A.out,Ii U9 sW EO h87 (by rw [hx]; exact ⟨r1,r2⟩) (by rw [hx]; exact h4),hx]
                    · -- ████ 'mid:=partitionEqualOrdered(..); a=mid; continue'
                      have TR:=h87
                      simp only [Bool.and_eq_true,decide_eq_true_eq,Bool.not_eq_true'] at TR
                      obtain ⟨mid,d4,hx⟩ : ∃ mid d4,partitionEqual ltInt (rd ltInt dk a' b' lim wb wp).pi.1 a' b' (rd ltInt dk a' b' lim wb wp).pivot=(mid,d4):=⟨(partitionEqual ltInt (rd ltInt dk a' b' lim wb wp).pi.1 a' b' (rd ltInt dk a' b' lim wb wp).pivot).1,(partitionEqual ltInt (rd ltInt dk a' b' lim wb wp).pi.1 a' b' (rd ltInt dk a' b' lim wb wp).pivot).2,rfl⟩;obtain ⟨r1,r2,r3,r4,_⟩:=round_eq S.swo S.peq TR.1 mr.1 mr.2 (show b'≤(rd ltInt dk a' b' lim wb wp).pi.1.size by omega) B3 TR.2 hx;have Xj:=C.peq blk off cap a' b' (rd ltInt dk a' b' lim wb wp).pivot (rd ltInt dk a' b' lim wb wp).pi.1 wc hH6 mr.1 mr.2 (by omega) (by omega);rw [s3,nJ,hx] at Xj;have X:Aside (partitionEqual ltInt (rd ltInt dk a' b' lim wb wp).pi.1 a' b' (rd ltInt dk a' b' lim wb wp).pivot=(mid,d4)):=hx;clear hx
                      go_wp2_with (go_at_call 239; refine Xj.mono ?_; rintro e w7 ⟨rfl,TN⟩)
                      go_roundg (b' - mid)
                      case measure=>omega
                      case rel =>
                        have hx:=X.out;exact ⟨mid,b',(rd ltInt dk a' b' lim wb wp).lim,wb,wp,d4,rfl,rfl,rfl,rfl,rfl,r2,H8,Nat.le_refl _,by omega,Nat.le_trans kM hlim,by rw [r3,s3,nJ],r4,TM.step gy r3 TN,by rw [← A.out,TE U9 sW EO h87 (by rw [hx]; exact ⟨r1,r2⟩),hx]⟩
end Go.Proofs.YtdackeldhdchaaaGreat.Srt
namespace Go.Proofs.YtdackeldhdchaaaGreat
open Go.RowKit Go.Maps Go.ChangeMaps Go.WideShapes Go.Sort
namespace Srt
theorem Il:yZ where
 ins:=SoR.insertionSort_int
 brk:=SoR.breakPatterns_int
 piv:=SoR.choosePivot_int
 par:=SoR.partialInsertionSort_int
 peq:=SoR.partitionEqualOrdered_int
 prt:=SoR.partitionOrdered_int
theorem Pn:Gs where
 swo:=swo_ltInt
 ins:=insertionSort_holds
 par:=partialInsertionSort_holds
 prt:=partition_holds _
 peq:=partitionEqual_holds _
 pdq:=pdq_sorts _
theorem pdqWalkInt:rY:=fun blk off cap a b limit d w hH hb tJ Eh df hl hB =>
 SoR.pdqsort_int Il Pn (b-a+1) blk off cap a b limit d w (by omega) hH hb tJ Eh df hl hB
end Srt
theorem tZ {w:World} {g:Nat} {cur:Array Value} {e:TypeId} {ss:List Int} (hb:w.heap[g]?=some (.cells cur e (0,0))) (ht:cur.toList.take ss.length=ss.map (Value.int .u32)):Holds (Value.int .u32) w g 0 ss.toArray:=by
 intro j hj
 have YM:j<ss.length:=by simpa using hj
 refine ⟨?_,by simp [World.frozen?,hb]⟩
 have h1:(cur.toList.take ss.length)[j]?=(ss.map (Value.int .u32))[j]?:=by rw [ht]
 rw [List.getElem?_take_of_lt YM] at h1
 simp only [World.cell?,hb,Nat.zero_add]
 simp only [Option.isSome_none,Bool.false_eq_true,if_false]
 rw [<- Array.getElem?_toList,h1]
 simp [YM]
theorem Ak {w:World} {g n:Nat} {os:Array Obj} {cur:Array Value} {e:TypeId} {fr:Nat × Nat} (d:Array Int) (hb:w.heap[g]?=some (.cells cur e fr)) :
  (grow (putRow (Value.int .u32) (Sort.ahead w n) g 0 d) os).heap[g]?=some (.cells (putCells (Value.int .u32) 0 d cur) e fr):=by
 have hg:g<w.heap.size:=(Array.getElem?_eq_some_iff.1 hb).1;rw [heap_grow_old _ _ (by simpa using hg)]
 simp [putRow,mapBlock,Sort.ahead,Array.getElem?_modify,hb,onCells]
theorem uf {w:World} {g n:Nat} {os:Array Obj} (d:Array Int):w.grownBy (grow (putRow (Value.int .u32) (Sort.ahead w n) g 0 d) os) (some g):=by
 refine ⟨rfl,rfl,rfl,by simp,fun k hk hne=>?_⟩;rw [heap_grow_old _ _ (by simpa using hk)]
 have:g≠k:=fun e=>hne (by rw [e])
 simp [putRow,mapBlock,Sort.ahead,Array.getElem?_modify,this]
theorem wF (cur:Array Value) (ts:List Int) (h:ts.length<=cur.size):(putCells (Value.int .u32) 0 ts.toArray cur).toList.take ts.length=ts.map (Value.int .u32):=by
 apply List.ext_getElem?
 intro j
 by_cases hj:j<ts.length
 ·rw [List.getElem?_take_of_lt hj,Array.getElem?_toList]
  simp [putCells,hj,show j<cur.size by omega]
 ·rw [List.getElem?_take_eq_none (by omega),List.getElem?_eq_none (by simp;omega)]
theorem CS (zs:List Int):Sort.sort ltInt zs.toArray=(zs.mergeSort fun x y=>decide (x<=y)).toArray:=by
 rw [<- sortInt zs]
theorem Io (base:Nat) (v:Value) (l:List Int) (w:World) (h:w.ownsRow base 77 1 v l.length (l.map (Value.int .u32))) (hl:l.length<=1048576) :
  Calls Tryz.prog 226 #[v] w fun e w'=>e=.returned (.tuple #[])/\∃ l':List Int,l'.Perm l/\w'.ownsRow base 77 1 v l.length (l'.map (Value.int .u32))/\af v.ownBlock.toList w w':=by
 obtain ⟨a,c,rfl,sD⟩:=aC h
 rcases sD with ⟨rfl,h0,rfl⟩ | ⟨g,rfl⟩
 ·have Po:l=[]:=List.eq_nil_of_length_eq_zero h0
  subst Po;refine (EI none 0 w).mono ?_;rintro e w' ⟨rfl,rfl⟩;exact ⟨rfl,[],List.Perm.refl _,h,af.refl _ _⟩
 ·obtain ⟨_,h1,h2,cur,hb,h3,h4⟩:=iy h
  have uS:base<=g:=(h.lt g rfl).1;rw [Nat.mul_one] at h4;have hH:=tZ hb h4
  have df:l.toArray.size=l.length:=by simp
  have hc:=Srt.SoR.Sort_int Srt.pdqWalkInt g 0 c l.toArray w hH (aj hb) (by rw [df];omega);rw [df,CS l] at hc;refine hc.mono ?_;rintro e w' ⟨rfl,n,os,rfl⟩;have hp:(l.mergeSort fun x y=>decide (x<=y)).Perm l:=List.mergeSort_perm _ _;have hlen:=hp.length_eq;refine ⟨rfl,_,hp,⟨by simp [hlen],.inr ⟨g,c,_,rfl,uS,Ak _ hb,h1,h2,by simp [putCells,h3],?_⟩⟩,(af.refl [g] w).grown (uf _) fun k hk=>.inl (by simp at hk;simp [hk])⟩;rw [Nat.mul_one,<- hlen];exact wF cur _ (by omega)
structure Gu (D:DM) (w:World) (e:Ending) (w':World):Prop where
 ex:∃ (a:Option Addr) (c:Nat) (l l0:List Int),e=.returned (.slice a l.length c)/\je D l0/\l.Perm l0/\w'.ownsRow w.heap.size 77 1 (.slice a l.length c) l.length (l.map (Value.int .u32))/\af [] w w'
theorem je.refs {T:List DM} {K:KV} {x:Nat} {D:DM} {l:List Int} (ht:di T K []) (hD:T[x]?=some D) (h:je D l) :
  ∃ rs:List Nat,l=rs.map (fun r:Nat=>(r:Int))/\rs.Nodup/\∀ r,r∈rs↔(2<=r/\K.A.tk r=true/\K.vI r=(x:Int)):=by
 obtain ⟨ps,hn,bI,hk,rfl⟩:=h
 have key:∀ p,p∈ps->∃ (r:Nat) (c:au),p.2=(r:Int)/\2<=r/\K.A.list[r]?=some c/\c.taken=true/\c.var=(x:Int)/\p.1=lg c:=fun p hp=>by
  obtain ⟨r,c,h2,hc,ja,hv,e,_⟩:=ht.dom x D p.1 hD ((hk p.1).1 (List.mem_map.2 ⟨p,hp,rfl⟩));have h1:=(ht.at_ r c D h2 hc ja (by simp) (by rw [hv];exact hD)).2 .nil;rw [<- e,bI p hp] at h1
  simp at h1
  exact ⟨r,c,h1,h2,hc,ja,hv,e⟩
 refine ⟨ps.map fun p=>p.2.toNat,?_,?_,fun r=>⟨fun hr=>?_,fun hr=>?_⟩⟩
 ·rw [List.map_map]
  refine List.map_congr_left fun p hp=>?_
  obtain ⟨r,_,e,_⟩:=key p hp
  simp [e]
 ·refine List.pairwise_map.2 (List.Pairwise.imp_of_mem (fun {a b} ha hb hne e=>hne ?_) (List.pairwise_map.1 hn))
  obtain ⟨r,c,e1,_,hc,_,_,k1⟩:=key a ha;obtain ⟨s,d,e2,_,hd,_,_,k2⟩:=key b hb;rw [e1,e2] at e
  simp at e
  subst e
  rw [hc] at hd;cases hd
  rw [k1,k2]
 ·obtain ⟨p,hp,rfl⟩:=List.mem_map.1 hr
  obtain ⟨s,c,e,h2,hc,ja,hv,_⟩:=key p hp;rw [e]
  simp only [Int.toNat_natCast]
  exact ⟨h2,ag.tk_iff.2 ⟨c,hc,ja⟩,by rw [KV.vI_at hc];exact hv⟩
 ·obtain ⟨h2,jJ,hv⟩:=hr
  obtain ⟨c,hc,ja⟩:=ag.tk_iff.1 jJ;rw [KV.vI_at hc] at hv;obtain ⟨g1,g2⟩:=ht.at_ r c D h2 hc ja (by simp) (by rw [hv];exact hD);obtain ⟨p,hp,e⟩:=List.mem_map.1 ((hk (lg c)).2 g1);refine List.mem_map.2 ⟨p,hp,?_⟩;have h1:=bI p hp .nil;rw [e,g2] at h1
  simp at h1
  simp [<- h1]
set_option maxRecDepth 100000 in
set_option maxHeartbeats 800000 in
theorem CV (Bm b nn:Nat) (D:DM) (w:World) (hBm:Bm<w.heap.size) (hm:w.cell? ⟨Bm,0,none⟩=some (.map (some b))) (aJ:w.ownsMap Tryz.prog 142 (plainElem Tryz.prog 77) b nn D) (df:Maps.size D<=1048576) (Eh:∀ l,je D l->l.length<=1048576) :
  Calls Tryz.prog 215 #[.func (.func 227) #[] #[.pointer (some ⟨Bm,0,none⟩)]] w fun e w'=>Gu D w e w':=by
 have HC:=Lib.hid (xM Bm b nn D w hBm hm aJ df);have HBD:=Lib.hid Eh;clear hm aJ Eh
 go_enter Tryz.func215,Tryz.ntmps215
 go_wp2_with fail;refine HC.out.mono ?_;rintro e w1 hE;obtain ⟨v,l,rfl,hl,hr,hB⟩:=hE.ex;have HL:=Lib.hid (And.intro hl (And.intro hr (Ho hB (Nat.le_refl _))));obtain ⟨a,c,rfl,_⟩:=aC hr;have uH:=HBD.out l hl;have HS:=Lib.hid (Io w.heap.size _ l w1 hr uH);clear hE hl hr hB HC;go_wp2_with fail;refine HS.out.mono ?_;rintro e w2 ⟨rfl,l',hp,aB,hu⟩;have hlen:=hp.length_eq
 have HE:Hid (Gu D w (.returned (.slice a l.length c)) w2):=by
  rw [<- hlen] at aB
  exact ⟨a,c,l',l,by rw [hlen],HL.out.1,hp,by rw [hlen] at aB ⊢;exact aB,HL.out.2.2.then hu fun k hk=>.inr (by
   have:=(HL.out.2.1.lt k (by simpa using hk)).1
   exact this)⟩
 clear hp aB hu hlen HS;go_wp2_with fail;go_ret;exact HE.out
set_option maxRecDepth 100000 in
set_option maxHeartbeats 800000 in
theorem Ip (tb:Nat) (F:List Nat) (x:Nat) (T:List DM) (K:KV) (w:World) (h:dC w tb T F) (ht:di T K []) (hw:K.Wf []) (hx:x<K.vars) :
  Calls Tryz.prog 187 #[.pointer (some ⟨tb,0,none⟩),.int .i64 x] w fun e w'=>Gf K x w e w':=by
 have aZ:x<T.length:=by rw [ht.len];exact hx
 have hv:T[x]?=some T[x]:=List.getElem?_eq_getElem aZ;generalize T[x]=D at hv;obtain ⟨g,cap,m,t1,t2,t3,c0,c1,aJ⟩:=h.cells hv;have df:Maps.size D<=1048576:=ht.size hw hv (aJ.canon aW) (aJ.tidy aW);have Eh:=h.bd
 have jk:∀ l,je D l->l.length<=1048576:=fun l hl=>by
  obtain ⟨rs,rfl,hn,hm⟩:=hl.refs ht hv;rw [List.length_map]
  have h1:rs.length<=(List.range 1048576).length:=List.Nodup.length_le_of_subset hn fun r hr=>by
   have h2:=ag.tk_lt ((hm r).1 hr).2.1;have h3:=hw.ok.lp;have h4:=hw.ok.pm;exact List.mem_range.2 (by omega)
  simpa using h1
 have HT:=Lib.hid h;have HO:=Lib.hid aJ;have HTI:=Lib.hid (And.intro ht (And.intro hw (And.intro hv jk)))
 have hvi:(x:Int)<(T.length:Int):=by omega
 clear h aJ t1 t2 t3 hv ht hw jk
 go_enter Tryz.func187,Tryz.ntmps187
 go_wp2_with fail;refine (kK tb F x T _ HT.out (by omega) (by omega)).mono ?_;rintro e w1 ⟨rfl,rfl⟩;go_wp2_with fail;refine (zV (some m) _).mono ?_;rintro e w2 ⟨rfl,rfl⟩;have hb:=heap_alloc_new w (.cells #[.map (some m)] 219 (0,0));have HM:=Lib.hid (bJ HO.out (((af.refl [] w).alloc (.cells #[.map (some m)] 219)).block m HO.out.lt (by simp)));have Ju:Hid ((w.alloc (.cells #[.map (some m)] 219)).cell? ⟨w.heap.size,0,none⟩=some (.map (some m))):=ae hb rfl;clear hb;go_wp2_with fail;refine (CV w.heap.size m _ D _ (by simp) Ju.out HM.out df HTI.out.2.2.2).mono ?_;rintro e w3 hE;obtain ⟨a,c,l,l0,rfl,sW,hp,aB,hu⟩:=hE.ex
 have HE:Hid (Gf K x w (.returned (.tuple #[.slice a l.length c,.int .i64 0])) w3):=by
  obtain ⟨rs,e,hn,hm⟩:=sW.refs HTI.out.1 HTI.out.2.2.1;subst e
  have EO:(l.map Int.toNat).Perm rs:=by
   have:=hp.map Int.toNat;rw [List.map_map] at this
   have e2:rs.map (Int.toNat ∘ fun r:Nat=>(r:Int))=rs:=by
    conv=>rhs;rw [<- List.map_id rs]
    exact List.map_congr_left fun r _=>by simp
   rw [e2] at this;exact this
  have e3:aN (l.map Int.toNat)=l.map (Value.int .u32):=by
   unfold aN;rw [List.map_map]
   refine List.map_congr_left fun z hz=>?_
   obtain ⟨r,_,rfl⟩:=List.mem_map.1 (hp.subset hz);rfl
  refine ⟨l.map Int.toNat,a,c,by simp,EO.symm.nodup hn,fun r=>by rw [EO.mem_iff];exact hm r,?_,((af.refl [] w).alloc _).trans hu⟩;rw [List.length_map,e3];exact bW aB (by rw [World.size_alloc];omega)
 clear hE sW hp aB hu;go_wp2_with fail;go_ret2;exact HE.out
theorem y8 (b l:Nat) (K:KV) (T:List DM) (q:aA) (w:World) (h:dH w b K T q) (hl:l+2<=K.vars) :
  Calls Tryz.prog 79 #[.pointer (some ⟨b,0,none⟩),.int .i64 l] w fun e w'=>Aa b l K q w e w' :=
 Ia b l K T q w h hl fun w0 u=>Ip q.t q.FT _ T K w0 (h.mem.tab.upd u (by simp)) h.ti h.ok.wf (h.ok.ord.pm.oo l (by omega)).1
end Go.Proofs.YtdackeldhdchaaaGreat
