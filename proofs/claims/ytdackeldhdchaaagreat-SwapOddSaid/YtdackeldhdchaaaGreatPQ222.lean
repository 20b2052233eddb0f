import Derived.Test.YtdackeldhdchaaaGreatPQ21
import Derived.Test.YtdackeldhdchaaaGreatPQ221
import Derived.Test.YtdackeldhdchaaaGreatPQ220
import Derived.Sort.LotD4
import Derived.Sort.Grow
import Derived.Sort.AtCall
import Derived.BigGuard
import Derived.BigCall
import Derived.CellFam
import Derived.Sort.Row
import Derived.WalkKit
import Derived.Deep.LoopGhost
import Derived.BigQuiet
import Derived.Sort.LotC
import Derived.RegionTactic
import Derived.Deep.Draws
import Derived.Deep.QuietTactic
namespace Go.Proofs.YtdackeldhdchaaaGreat.Srt
open Go.Sort Go.RowKit
theorem akd {x y:Int} (h:(x == y)=true):x=y:=by simpa using h
theorem ake {x y:Int} (h:(x == y)=false):x≠y:=by simpa using h
theorem aCB (w:World) (N S:Nat):∃ os,putRow (Value.int .i64) (Sort.ahead (w.alloc (.cells #[.int .i64 0] 3)) N) w.heap.size 0 (one S)=grow (Sort.ahead w N) os:=by
 rw [alloc_eq_grow,ahead_grow];obtain ⟨os,_,h⟩:=putRow_grow_new (Value.int .i64) (Sort.ahead w N) #[.cells #[.int .i64 0] 3] w.heap.size 0 (one S) (Nat.le_refl _);exact ⟨os,h⟩
theorem axq (blk off cap:Nat) (d:Array Int) (w:World) (hH:Holds (Value.int .u32) w blk off d) (ais:blk<w.heap.size) (hsz:d.size<4611686018427387904) :
  ∃ Wc:Nat->Nat->World,
   w.alloc (.cells #[.int .i64 0] 3)=Wc 0 0 /\
   (∀ N S:Nat,(Wc N S).cell? ⟨w.heap.size,0,none⟩=some (.int .i64 (S:Int))) /\
   (∀ N S:Nat,∃ os,Wc N S=grow (Sort.ahead w N) os) /\
   (∀ x s N:Nat,1<=x->x+1<d.size->s+3<4611686018427387904->Calls Tryz.prog 246 #[.slice (some ⟨blk,off,none⟩) d.size cap,.int .i64 (x:Int),.pointer (some ⟨w.heap.size,0,none⟩)] (Wc N s) fun e w' =>
    e=.returned (.int .i64 ((medianAdjacent ltInt d x s).1:Int))/\∃ N',w'=Wc N' (medianAdjacent ltInt d x s).2) /\
   (∀ x y z s N:Nat,x<d.size->y<d.size->z<d.size->s+3<4611686018427387904->Calls Tryz.prog 247 #[.slice (some ⟨blk,off,none⟩) d.size cap,.int .i64 (x:Int),.int .i64 (y:Int),.int .i64 (z:Int),.pointer (some ⟨w.heap.size,0,none⟩)] (Wc N s) fun e w' =>
    e=.returned (.int .i64 ((median ltInt d x y z s).1:Int))/\∃ N',w'=Wc N' (median ltInt d x y z s).2):=by
 have hne:w.heap.size≠blk:=by omega
 have hH0:Holds (Value.int .u32) (w.alloc (.cells #[.int .i64 0] 3)) blk off d:=by rw [alloc_eq_grow];exact holds_grow _ _ _ _ _ _ ais hH
 have hS0:Holds (Value.int .i64) (w.alloc (.cells #[.int .i64 0] 3)) w.heap.size 0 (one 0):=fun j hj=>by
  obtain rfl:j=0:=by simpa using hj
  simp
 refine ⟨fun N S=>putRow (Value.int .i64) (Sort.ahead (w.alloc (.cells #[.int .i64 0] 3)) N) w.heap.size 0 (one S),(putRow_self _ _ _ _ _ hS0).symm,fun N S=>(aDP (amj (n:=N) (t:=S) hS0)).1,fun N S=>aCB w N S,?_,?_⟩
 ·intro x s N h1 h2 hs
  refine (SoR.medianAdjacent_int d _ rfl blk off cap x w.heap.size 0 s _ (alf hH0 hne) h1 h2 (by omega) hne (amj hS0) (by omega)).mono ?_;rintro e w' ⟨he,n,hw⟩;exact ⟨he,N+n,by rw [hw,axT]⟩
 ·intro x y z s N h1 h2 h3 hs
  refine (SoR.median_int d _ rfl blk off cap x y z w.heap.size 0 s _ (alf hH0 hne) h1 h2 h3 hne (amj hS0) (by omega)).mono ?_;rintro e w' ⟨he,n,hw⟩;exact ⟨he,N+n,by rw [hw,axT]⟩
set_option maxRecDepth 100000 in
theorem SoR.choosePivot_int (blk off cap a b:Nat) (d:Array Int) (w:World) (hH:Holds (Value.int .u32) w blk off d) (ais:blk < w.heap.size) (hab:a < b) (hb:b≤d.size) (hsz:d.size < 4611686018427387904) :
    Calls Tryz.prog 235 #[.slice (some ⟨blk,off,none⟩) d.size cap,.int .i64 a,.int .i64 b] w fun e w' =>
      e=.returned (.tuple #[.int .i64 (choosePivot ltInt d a b).1,.int .i64 (hintCode (choosePivot ltInt d a b).2)])∧∃ n os,w'=grow (Sort.ahead w n) os:=by
  obtain ⟨Wc,hW0,cS,hG,MA,MD⟩:=axq blk off cap d w hH ais hsz;clear hH;rw [choosePivot_eq];obtain ⟨I,hI⟩ : ∃ I:Nat,I=a + (b - a) / 4 * 1:=⟨_,rfl⟩;obtain ⟨J,hJ⟩ : ∃ J:Nat,J=a + (b - a) / 4 * 2:=⟨_,rfl⟩;obtain ⟨K,hK⟩ : ∃ K:Nat,K=a + (b - a) / 4 * 3:=⟨_,rfl⟩
  have eI:((a:Int) + ((b:Int) - (a:Int)) / 4)=(I:Int):=by omega
  have eJ:((a:Int) + ((b:Int) - (a:Int)) / 4 * 2)=(J:Int):=by omega
  have eK:((a:Int) + ((b:Int) - (a:Int)) / 4 * 3)=(K:Int):=by omega
  by_cases h8:b - a ≥ 8
  · by_cases h50:b - a ≥ 50
    · -- THE NINTHER
      obtain ⟨i1,s1,h1⟩ : ∃ i1 s1,medianAdjacent ltInt d I 0=(i1,s1):=⟨_,_,rfl⟩;obtain ⟨j1,s2,h2⟩ : ∃ j1 s2,medianAdjacent ltInt d J s1=(j1,s2):=⟨_,_,rfl⟩;obtain ⟨k1,s3,h3⟩ : ∃ k1 s3,medianAdjacent ltInt d K s2=(k1,s3):=⟨_,_,rfl⟩;obtain ⟨p,s,h4⟩ : ∃ p s,median ltInt d i1 j1 k1 s3=(p,s):=⟨_,_,rfl⟩
      have aDQ:rawPivot ltInt d a b=(p,s):=by simp only [rawPivot,if_pos h8,if_pos h50,← hI,← hJ,← hK,h1,h2,h3,h4]
      have m1:=medianAdjacent_mem ltInt d I 0; rw [h1] at m1
      have m2:=medianAdjacent_mem ltInt d J s1; rw [h2] at m2
      have m3:=medianAdjacent_mem ltInt d K s2; rw [h3] at m3
      have n1:=medianAdjacent_count ltInt d I 0; rw [h1] at n1
      have n2:=medianAdjacent_count ltInt d J s1; rw [h2] at n2
      have n3:=medianAdjacent_count ltInt d K s2; rw [h3] at n3
      simp only [] at m1 m2 m3 n1 n2 n3
      have c1:Calls Tryz.prog 246 #[.slice (some ⟨blk,off,none⟩) d.size cap,.int .i64 (I:Int),.pointer (some ⟨w.heap.size,0,none⟩)] (Wc 0 0) fun e w'=>e=.returned (.int .i64 (i1:Int))∧∃ N',w'=Wc N' s1:=by
        have h:=MA I 0 0 (by omega) (by omega) (by omega); rw [h1] at h; exact h
      have c2:∀ N,Calls Tryz.prog 246 #[.slice (some ⟨blk,off,none⟩) d.size cap,.int .i64 (J:Int),.pointer (some ⟨w.heap.size,0,none⟩)] (Wc N s1) fun e w'=>e=.returned (.int .i64 (j1:Int))∧∃ N',w'=Wc N' s2:=fun N=>by
        have h:=MA J s1 N (by omega) (by omega) (by omega); rw [h2] at h; exact h
      have c3:∀ N,Calls Tryz.prog 246 #[.slice (some ⟨blk,off,none⟩) d.size cap,.int .i64 (K:Int),.pointer (some ⟨w.heap.size,0,none⟩)] (Wc N s2) fun e w'=>e=.returned (.int .i64 (k1:Int))∧∃ N',w'=Wc N' s3:=fun N=>by
        have h:=MA K s2 N (by omega) (by omega) (by omega); rw [h3] at h; exact h
      have c4:∀ N,Calls Tryz.prog 247 #[.slice (some ⟨blk,off,none⟩) d.size cap,.int .i64 (i1:Int),.int .i64 (j1:Int),.int .i64 (k1:Int),.pointer (some ⟨w.heap.size,0,none⟩)] (Wc N s3) fun e w'=>e=.returned (.int .i64 (p:Int))∧∃ N',w'=Wc N' s:=fun N=>by
        have h:=MD i1 j1 k1 s3 N (by omega) (by omega) (by omega) (by omega); rw [h4] at h; exact h
      rw [aDQ];obtain ⟨Hc,hHc⟩ : ∃ Hc:Int,Hc=hintCode (hintOf s):=⟨_,rfl⟩
      have hh0:s=0→Hc=1:=fun h=>by rw [hHc,h]; rfl
      have aJ9:s=12→Hc=2:=fun h=>by rw [hHc,h]; rfl
      have hhx:s≠0→s≠12→Hc=0:=fun h1 h2=>by rw [hHc]; unfold hintOf; rw [if_neg h1,if_neg h2]; rfl
      show Calls Tryz.prog 235 _ w fun e w'=>e=.returned (.tuple #[.int .i64 (p:Int),.int .i64 (hintCode (hintOf s))])∧∃ n os,w'=grow (Sort.ahead w n) os
      rw [← hHc];clear hHc aDQ;clear h1 h2 h3 h4 MA MD hI hJ hK m1 m2 m3
      go_enter Tryz.func235,Tryz.ntmps235
      go_wp2_with (first
        | (go_at_call_has 246 (Value.int .i64 (I:Int)); refine c1.mono ?_; rintro e w' ⟨rfl,N1,rfl⟩)
        | (go_at_call_has 246 (Value.int .i64 (J:Int)); refine (c2 _).mono ?_; rintro e w' ⟨rfl,N2,rfl⟩)
        | (go_at_call_has 246 (Value.int .i64 (K:Int)); refine (c3 _).mono ?_; rintro e w' ⟨rfl,N3,rfl⟩)
        | (go_at_call 247; refine (c4 _).mono ?_; rintro e w' ⟨rfl,N4,rfl⟩))
      all_goals
        go_ret2;refine ⟨?_,_,hG _ _⟩
        first
          | (have e0:(s:Int)=0:=akd (by assumption)
             rw [hh0 (by omega)]; rfl)
          | (have e1:(s:Int)=12:=akd (by assumption)
             rw [aJ9 (by omega)]; rfl)
          | (have e0:(s:Int)≠0:=ake (by assumption)
             have e1:(s:Int)≠12:=ake (by assumption)
             rw [hhx (by omega) (by omega)]; rfl)
          | (rw [hh0 (by omega)]; rfl)
    · -- THE MEDIAN OF THREE
      obtain ⟨p,s,h4⟩ : ∃ p s,median ltInt d I J K 0=(p,s):=⟨_,_,rfl⟩
      have aDQ:rawPivot ltInt d a b=(p,s):=by simp only [rawPivot,if_pos h8,if_neg h50,← hI,← hJ,← hK,h4]
      have c4:Calls Tryz.prog 247 #[.slice (some ⟨blk,off,none⟩) d.size cap,.int .i64 (I:Int),.int .i64 (J:Int),.int .i64 (K:Int),.pointer (some ⟨w.heap.size,0,none⟩)] (Wc 0 0) fun e w'=>e=.returned (.int .i64 (p:Int))∧∃ N',w'=Wc N' s:=by
        have h:=MD I J K 0 0 (by omega) (by omega) (by omega) (by omega); rw [h4] at h; exact h
      rw [aDQ];obtain ⟨Hc,hHc⟩ : ∃ Hc:Int,Hc=hintCode (hintOf s):=⟨_,rfl⟩
      have hh0:s=0→Hc=1:=fun h=>by rw [hHc,h]; rfl
      have aJ9:s=12→Hc=2:=fun h=>by rw [hHc,h]; rfl
      have hhx:s≠0→s≠12→Hc=0:=fun h1 h2=>by rw [hHc]; unfold hintOf; rw [if_neg h1,if_neg h2]; rfl
      show Calls Tryz.prog 235 _ w fun e w'=>e=.returned (.tuple #[.int .i64 (p:Int),.int .i64 (hintCode (hintOf s))])∧∃ n os,w'=grow (Sort.ahead w n) os
      rw [← hHc];clear hHc aDQ;clear h4 MA MD hI hJ hK
      go_enter Tryz.func235,Tryz.ntmps235
      go_wp2_with (first | (go_at_call 247; refine c4.mono ?_; rintro e w' ⟨rfl,N4,rfl⟩))
      all_goals
        go_ret2;refine ⟨?_,_,hG _ _⟩
        first
          | (have e0:(s:Int)=0:=akd (by assumption)
             rw [hh0 (by omega)]; rfl)
          | (have e1:(s:Int)=12:=akd (by assumption)
             rw [aJ9 (by omega)]; rfl)
          | (have e0:(s:Int)≠0:=ake (by assumption)
             have e1:(s:Int)≠12:=ake (by assumption)
             rw [hhx (by omega) (by omega)]; rfl)
          | (rw [hh0 (by omega)]; rfl)
  · -- FEWER THAN EIGHT: the middle; nothing is counted
    obtain ⟨p,hp⟩ : ∃ p:Nat,p=J:=⟨_,rfl⟩;obtain ⟨s,hs⟩ : ∃ s:Nat,s=0:=⟨_,rfl⟩
    have aDQ:rawPivot ltInt d a b=(p,s):=by simp only [rawPivot,if_neg h8,← hJ,hp,hs]
    rw [aDQ];obtain ⟨Hc,hHc⟩ : ∃ Hc:Int,Hc=hintCode (hintOf s):=⟨_,rfl⟩
    have hh0:s=0→Hc=1:=fun h=>by rw [hHc,h]; rfl
    have aJ9:s=12→Hc=2:=fun h=>by rw [hHc,h]; rfl
    have hhx:s≠0→s≠12→Hc=0:=fun h1 h2=>by rw [hHc]; unfold hintOf; rw [if_neg h1,if_neg h2]; rfl
    show Calls Tryz.prog 235 _ w fun e w'=>e=.returned (.tuple #[.int .i64 (p:Int),.int .i64 (hintCode (hintOf s))])∧∃ n os,w'=grow (Sort.ahead w n) os
    rw [← hHc];clear hHc aDQ;subst hp;clear MA MD hI hJ hK
    have a2j:w.alloc (.cells #[.int .i64 0] 3)=Wc 0 s:=by rw [hs]; exact hW0
    clear hW0
    go_enter Tryz.func235,Tryz.ntmps235
    go_wp2
    all_goals
      go_ret2;refine ⟨?_,_,hG _ _⟩
      first
        | (have e0:(s:Int)=0:=akd (by assumption)
           rw [hh0 (by omega)]; rfl)
        | (have e1:(s:Int)=12:=akd (by assumption)
           rw [aJ9 (by omega)]; rfl)
        | (have e0:(s:Int)≠0:=ake (by assumption)
           have e1:(s:Int)≠12:=ake (by assumption)
           rw [hhx (by omega) (by omega)]; rfl)
        | (rw [hh0 (by omega)]; rfl)
abbrev aeU:Int->Value:=fun x=>Value.int .u32 x
theorem aks {α : Type} [Inhabited α] (enc:α->Value) {w wr:World} {n blk off:Nat} {dk:Array α} {i j:Nat} (hi:i<dk.size) (hj:j<dk.size) (hwr:wr=putRow enc (Sort.ahead w n) blk off dk)
  {x y:Value} (hx:x=enc dk[j]!) (hy:y=enc dk[i]!):((wr.setCell ⟨blk,off+i,none⟩ x).setCell ⟨blk,off+j,none⟩ y).drew=putRow enc (Sort.ahead w (n+1)) blk off (swp dk i j):=by
 subst hwr;subst hx;subst hy
 rw [putRow_swp enc _ blk off dk i j hi hj,<- ahead_drew];rfl
set_option maxHeartbeats 1600000 in
set_option maxRecDepth 1000000 in
theorem SoR.reverseRange_int (blk off cap:Nat) (d:Array Int) (a b:Nat) (w:World) (hH:Holds aeU w blk off d) (hab:a<=b) (hb:b<=d.size) (hsz:d.size<4611686018427387904) :
  Calls Tryz.prog 236 #[.slice (some ⟨blk,off,none⟩) d.size cap,.int .i64 a,.int .i64 b] w fun e w'=>e=.returned (.tuple #[])/\∃ n,w'=putRow aeU (Sort.ahead w n) blk off (reverseRange d a b):=by
 go_enter Tryz.func236,Tryz.ntmps236
 go_wp2
 go_loopg [6,7] (b-a) (fun k s6 s7 wr=>∃ (i jn:Nat) (jz:Int) (dk:Array Int) (n:Nat),s6=.int .i64 i/\s7=.int .i64 jz/\((i:Int)<jz->jz=jn/\jn<d.size)/\(¬ (i:Int)<jz->¬ i<jn)/\jn-i<=k /\
  dk.size=d.size/\wr=putRow aeU (Sort.ahead w n) blk off dk/\reverseLoop i jn dk=reverseLoop a (b-1) d)
 case atStart=>exact ⟨a,b-1,(b:Int)-1,d,0,rfl,rfl,fun h=>⟨by omega,by omega⟩,fun h=>by omega,by omega,rfl,(putRow_self aeU w blk off d hH).symm,rfl⟩
 case round =>
  obtain ⟨i,jn,jz,dk,n,rfl,rfl,h1,h2,hk,hds,hwr,heq⟩:=hrel
  by_cases hlt:(i:Int)<jz
  ·obtain ⟨rfl,hjn⟩:=h1 hlt
   have hij:i<jn:=by omega
   have hHk:Holds aeU wr blk off dk:=by rw [hwr];exact holds_putRow aeU _ blk off d dk (holds_ahead aeU w n blk off d hH) hds
   obtain ⟨ci,fi⟩:=hHk i (by omega);obtain ⟨cj,fj⟩:=hHk jn (by omega);have A:Aside (wr=putRow aeU (Sort.ahead w n) blk off dk):=hwr;clear hwr hHk hH h1 h2;go_wp2_with fail
   go_region
   go_wp2
   go_roundg (jn-1-(i+1))
   case measure=>omega
   case rel =>
    rw [reverseLoop,if_pos hij] at heq
    exact ⟨i+1,jn-1,(jn:Int)-1,swp dk i jn,n+1,by simp,rfl,fun h=>⟨by omega,by omega⟩,fun h=>by omega,Nat.le_refl _,by rw [size_swp];exact hds,
     aks aeU (by omega) (by omega) A.out (by simp [aeU,getElem!_pos,show jn<dk.size by omega]) rfl,heq⟩
  ·have aOQ:=h2 hlt
   go_wp2
   go_end0;refine ⟨rfl,n,?_⟩;rw [reverseLoop,if_neg aOQ] at heq;rw [reverseRange,<- heq]
end Go.Proofs.YtdackeldhdchaaaGreat.Srt
namespace Go.Sort
variable {α : Type} [Inhabited α] (lt:α->α->Bool)
theorem aPJ {hi F root:Nat} (d:Array α) (h:hi<=2*root+1):siftDown lt hi F root d=d:=by rw [siftDown,dif_pos h]
theorem aAA {hi F root:Nat} (d:Array α) (h1:2*root+2<hi) (h2:lt d[F+(2*root+1)]! d[F+(2*root+2)]! = true) (h3:lt d[F+root]! d[F+(2*root+2)]! = false):siftDown lt hi F root d=d:=by
 rw [siftDown,dif_neg (by omega),show F+(2*root+1)+1=F+(2*root+2) by omega,h2,h3]
 simp [show 2*root+1+1<hi by omega]
theorem aDU {hi F root:Nat} (d:Array α) (h1:2*root+2<hi) (h2:lt d[F+(2*root+1)]! d[F+(2*root+2)]! = true) (h3:lt d[F+root]! d[F+(2*root+2)]! = true) :
  siftDown lt hi F root d=siftDown lt hi F (2*root+2) (swp d (F+root) (F+(2*root+2))):=by
 rw [siftDown,dif_neg (by omega),show F+(2*root+1)+1=F+(2*root+2) by omega,h2,h3]
 simp [show 2*root+1+1<hi by omega]
theorem auB {hi F root:Nat} (d:Array α) (h0:2*root+1<hi) (h1:2*root+2<hi->lt d[F+(2*root+1)]! d[F+(2*root+2)]! = false) (h3:lt d[F+root]! d[F+(2*root+1)]! = false):siftDown lt hi F root d=d:=by
 rw [siftDown,dif_neg (by omega),show F+(2*root+1)+1=F+(2*root+2) by omega,h3]
 by_cases h:2*root+2<hi
 ·simp [h1 h]
 ·simp [show ¬ 2*root+1+1<hi by omega]
theorem ayZ {hi F root:Nat} (d:Array α) (h0:2*root+1<hi) (h1:2*root+2<hi->lt d[F+(2*root+1)]! d[F+(2*root+2)]! = false) (h3:lt d[F+root]! d[F+(2*root+1)]! = true) :
  siftDown lt hi F root d=siftDown lt hi F (2*root+1) (swp d (F+root) (F+(2*root+1))):=by
 rw [siftDown,dif_neg (by omega),show F+(2*root+1)+1=F+(2*root+2) by omega,h3]
 by_cases h:2*root+2<hi
 ·simp [h1 h]
 ·simp [show ¬ 2*root+1+1<hi by omega]
end Go.Sort
namespace Go.Proofs.YtdackeldhdchaaaGreat.Srt
open Go.Sort Go.RowKit
theorem agA {α : Type} [Inhabited α] (enc:α->Value) {w wr:World} {n blk off:Nat} {dk:Array α} (hwr:wr=putRow enc (Sort.ahead w n) blk off dk) (m:Nat):wr.drewN m=putRow enc (Sort.ahead w (n+m)) blk off dk:=by
 subst hwr;rw [<- ahead_ahead];rfl
set_option maxHeartbeats 3200000 in
set_option maxRecDepth 1000000 in
theorem SoR.siftDown_int (blk off len cap:Nat) (d:Array Int) (hlen:d.size=len) (lo hi first:Nat) (w:World) (hH:Holds aeU w blk off d) (hlo:lo<=hi) (hb:first+hi<=d.size) (hsz:d.size<4611686018427387904) :
  Calls Tryz.prog 243 #[.slice (some ⟨blk,off,none⟩) len cap,.int .i64 lo,.int .i64 hi,.int .i64 first] w fun e w'=>e=.returned (.tuple #[])/\∃ n,w'=putRow aeU (Sort.ahead w n) blk off (siftDown ltInt hi first lo d):=by
 subst hlen
 go_enter Tryz.func243,Tryz.ntmps243
 go_wp2
 go_loopg [8] (hi-lo) (fun k s8 wr=>∃ (root:Nat) (dk:Array Int) (n:Nat),s8=.int .i64 root/\root<=hi/\hi-root<=k/\dk.size=d.size/\wr=putRow aeU (Sort.ahead w n) blk off dk/\siftDown ltInt hi first root dk=siftDown ltInt hi first lo d)
 case atStart=>exact ⟨lo,d,0,rfl,hlo,Nat.le_refl _,rfl,(putRow_self aeU w blk off d hH).symm,rfl⟩
 case round =>
  obtain ⟨root,dk,n,rfl,hr,hk,hds,hwr,heq⟩:=hrel
  have hHk:Holds aeU wr blk off dk:=by rw [hwr];exact holds_putRow aeU _ blk off d dk (holds_ahead aeU w n blk off d hH) hds
  have hcw:∀ t,t<d.size->wr.cell? ⟨blk,off+t,none⟩=some (.int .u32 dk[t]!):=fun t ht=>(hHk t (by omega)).1
  have hfw:∀ t,t<d.size->wr.frozen? ⟨blk,off+t,none⟩=false:=fun t ht=>(hHk t (by omega)).2
  have A:Aside (wr=putRow aeU (Sort.ahead w n) blk off dk):=hwr;clear hwr hH hHk
  by_cases h0:hi<=2*root+1
  ·-- no child: the loop is left
   have h0z:(hi:Int)<=2*(root:Int)+1:=by omega
   go_wp2
   go_end0;refine ⟨rfl,n,?_⟩;rw [A.out,<- heq,aPJ ltInt dk h0]
  ·-- (the tests,AS THE WALK SPELLS THEM: over Int: a guard that is not decided stops the quiet walk)
   have h0z:¬ ((hi:Int)<=2*(root:Int)+1):=by omega
   by_cases h1:2*root+2<hi
   ·have h1z:2*(root:Int)+1+1<(hi:Int):=by omega
    go_wp2_with fail
    go_big_quiet (first | (go_at_call 238;refine Calls.quiet_of_same (SoR.cmp_Less_int _ _ _)))
    go_wp2_with fail
    ·-- THE RIGHT CHILD IS THE GREATER
     have hL:ltInt dk[first+2*root+1]! dk[first+2*root+2]! = true:=by assumption
     revert nq;intro nq1      -- (the next quiet region brings an 'nq' of its own)
     have ay0:∀ t,t<d.size->(wr.drewN nq1).cell? ⟨blk,off+t,none⟩=some (.int .u32 dk[t]!):=hcw;have ay1:∀ t,t<d.size->(wr.drewN nq1).frozen? ⟨blk,off+t,none⟩=false:=hfw;have A2:Aside (wr.drewN nq1=putRow aeU (Sort.ahead w (n+nq1)) blk off dk):=agA aeU A.out nq1;clear hcw hfw A;generalize wr.drewN nq1=wr2 at ay0 ay1 A2 ⊢
     go_big_quiet (first | (go_at_call 238;refine Calls.quiet_of_same (SoR.cmp_Less_int _ _ _)))
     go_wp2_with fail
     ·-- the hole is not less than the greater child: return
      have hS:ltInt dk[first+root]! dk[first+2*root+2]! = false:=by
       have:(!ltInt dk[first+root]! dk[first+2*root+2]!)=true:=by assumption
       simpa using this
      (try simp only [Exit.inBlock,Exit.then]);refine bodyPost_ret (results_none rfl _ _ _) rfl ?_      -- (an explicit 'return' of a function without results)
      refine ⟨rfl,n+nq1+nq,?_⟩;rw [agA aeU A2.out nq,<- heq,aAA ltInt dk h1 hL hS]
     ·-- it is: they are swapped,and the hole goes down
      have hG:ltInt dk[first+root]! dk[first+2*root+2]! = true:=by
       have:(!ltInt dk[first+root]! dk[first+2*root+2]!)=false:=by assumption
       simpa using this
      have aKb:∀ t,t<d.size->(wr2.drewN nq).cell? ⟨blk,off+t,none⟩=some (.int .u32 dk[t]!):=ay0;have aKc:∀ t,t<d.size->(wr2.drewN nq).frozen? ⟨blk,off+t,none⟩=false:=ay1;have A3:Aside (wr2.drewN nq=putRow aeU (Sort.ahead w (n+nq1+nq)) blk off dk):=agA aeU A2.out nq;clear ay0 ay1 A2;generalize wr2.drewN nq=wr3 at aKb aKc A3 ⊢
      go_region
      go_wp2
      go_roundg (hi-(2*root+2))
      case measure=>omega
      case rel =>
       refine ⟨2*root+2,swp dk (first+root) (first+(2*root+1+1)),n+nq1+nq+1,by simp <;> omega,by omega,Nat.le_refl _,by rw [size_swp];exact hds,aks aeU (by omega) (by omega) A3.out rfl rfl,?_⟩;rw [<- heq,aDU ltInt dk h1 hL hG]
    ·-- THE LEFT CHILD IS NOT LESS THAN THE RIGHT
     have hL:ltInt dk[first+2*root+1]! dk[first+2*root+2]! = false:=by assumption
     revert nq;intro nq1      -- (the next quiet region brings an 'nq' of its own)
     have ay0:∀ t,t<d.size->(wr.drewN nq1).cell? ⟨blk,off+t,none⟩=some (.int .u32 dk[t]!):=hcw;have ay1:∀ t,t<d.size->(wr.drewN nq1).frozen? ⟨blk,off+t,none⟩=false:=hfw;have A2:Aside (wr.drewN nq1=putRow aeU (Sort.ahead w (n+nq1)) blk off dk):=agA aeU A.out nq1;clear hcw hfw A;generalize wr.drewN nq1=wr2 at ay0 ay1 A2 ⊢
     go_big_quiet (first | (go_at_call 238;refine Calls.quiet_of_same (SoR.cmp_Less_int _ _ _)))
     go_wp2_with fail
     ·-- the hole is not less than the greater child: return
      have hS:ltInt dk[first+root]! dk[first+2*root+1]! = false:=by
       have:(!ltInt dk[first+root]! dk[first+2*root+1]!)=true:=by assumption
       simpa using this
      (try simp only [Exit.inBlock,Exit.then]);refine bodyPost_ret (results_none rfl _ _ _) rfl ?_      -- (an explicit 'return' of a function without results)
      refine ⟨rfl,n+nq1+nq,?_⟩;rw [agA aeU A2.out nq,<- heq,auB ltInt dk (by omega) (fun _=>hL) hS]
     ·-- it is: they are swapped,and the hole goes down
      have hG:ltInt dk[first+root]! dk[first+2*root+1]! = true:=by
       have:(!ltInt dk[first+root]! dk[first+2*root+1]!)=false:=by assumption
       simpa using this
      have aKb:∀ t,t<d.size->(wr2.drewN nq).cell? ⟨blk,off+t,none⟩=some (.int .u32 dk[t]!):=ay0;have aKc:∀ t,t<d.size->(wr2.drewN nq).frozen? ⟨blk,off+t,none⟩=false:=ay1;have A3:Aside (wr2.drewN nq=putRow aeU (Sort.ahead w (n+nq1+nq)) blk off dk):=agA aeU A2.out nq;clear ay0 ay1 A2;generalize wr2.drewN nq=wr3 at aKb aKc A3 ⊢
      go_region
      go_wp2
      go_roundg (hi-(2*root+1))
      case measure=>omega
      case rel =>
       refine ⟨2*root+1,swp dk (first+root) (first+(2*root+1)),n+nq1+nq+1,by simp <;> omega,by omega,Nat.le_refl _,by rw [size_swp];exact hds,aks aeU (by omega) (by omega) A3.out rfl rfl,?_⟩;rw [<- heq,ayZ ltInt dk (by omega) (fun _=>hL) hG]
   ·-- THERE IS NO RIGHT CHILD
    have h1z:decide (2*(root:Int)+1+1<(hi:Int))=false:=decide_eq_false (by omega)      -- (a guard that is FALSE: said so outright: from '¬ ..' the walk did not decide it)
    go_wp2_with fail
    go_big_quiet (first | (go_at_call 238;refine Calls.quiet_of_same (SoR.cmp_Less_int _ _ _)))
    go_wp2_with fail
    revert nq;intro nq1      -- (the next quiet region brings an 'nq' of its own)
    have ay0:∀ t,t<d.size->(wr.drewN nq1).cell? ⟨blk,off+t,none⟩=some (.int .u32 dk[t]!):=hcw;have ay1:∀ t,t<d.size->(wr.drewN nq1).frozen? ⟨blk,off+t,none⟩=false:=hfw;have A2:Aside (wr.drewN nq1=putRow aeU (Sort.ahead w (n+nq1)) blk off dk):=agA aeU A.out nq1;clear hcw hfw A;generalize wr.drewN nq1=wr2 at ay0 ay1 A2 ⊢
    go_big_quiet (first | (go_at_call 238;refine Calls.quiet_of_same (SoR.cmp_Less_int _ _ _)))
    go_wp2_with fail
    ·-- the hole is not less than the greater child: return
     have hS:ltInt dk[first+root]! dk[first+2*root+1]! = false:=by
      have:(!ltInt dk[first+root]! dk[first+2*root+1]!)=true:=by assumption
      simpa using this
     (try simp only [Exit.inBlock,Exit.then]);refine bodyPost_ret (results_none rfl _ _ _) rfl ?_      -- (an explicit 'return' of a function without results)
     refine ⟨rfl,n+nq1+nq,?_⟩;rw [agA aeU A2.out nq,<- heq,auB ltInt dk (by omega) (fun h=>absurd h h1) hS]
    ·-- it is: they are swapped,and the hole goes down
     have hG:ltInt dk[first+root]! dk[first+2*root+1]! = true:=by
      have:(!ltInt dk[first+root]! dk[first+2*root+1]!)=false:=by assumption
      simpa using this
     have aKb:∀ t,t<d.size->(wr2.drewN nq).cell? ⟨blk,off+t,none⟩=some (.int .u32 dk[t]!):=ay0;have aKc:∀ t,t<d.size->(wr2.drewN nq).frozen? ⟨blk,off+t,none⟩=false:=ay1;have A3:Aside (wr2.drewN nq=putRow aeU (Sort.ahead w (n+nq1+nq)) blk off dk):=agA aeU A2.out nq;clear ay0 ay1 A2;generalize wr2.drewN nq=wr3 at aKb aKc A3 ⊢
     go_region
     go_wp2
     go_roundg (hi-(2*root+1))
     case measure=>omega
     case rel =>
      refine ⟨2*root+1,swp dk (first+root) (first+(2*root+1)),n+nq1+nq+1,by simp <;> omega,by omega,Nat.le_refl _,by rw [size_swp];exact hds,aks aeU (by omega) (by omega) A3.out rfl rfl,?_⟩;rw [<- heq,ayZ ltInt dk (by omega) (fun h=>absurd h h1) hG]
end Go.Proofs.YtdackeldhdchaaaGreat.Srt
namespace Go.Sort
variable {α : Type} [Inhabited α] (lt:α->α->Bool)
theorem afW (hi F:Nat):∀ (n root:Nat) (d:Array α),hi-root<=n->(siftDown lt hi F root d).size=d.size:=by
 intro n
 induction n with
 | zero=>intro root d h;rw [siftDown,dif_pos (by omega)]
 | succ n ih =>
  intro root d h
  rw [siftDown];split
  ·rfl
  ·split
   ·split
    ·rfl
    ·split
     ·rw [ih _ _ (by omega),size_swp]
     ·rfl
   ·split
    ·rfl
    ·rw [ih _ _ (by omega),size_swp]
end Go.Sort
namespace Go.Proofs.YtdackeldhdchaaaGreat.Srt
open Go.Sort Go.RowKit
theorem aFQ {a b:Nat} (hab:a<=b):((b:Int)-(a:Int)-1).tdiv 2=(((b-a-1)/2+1:Nat):Int)-1:=by
 by_cases h:a=b
 ·subst h
  have:((a:Int)-(a:Int)-1)=-1:=by omega
  rw [this];simp
 ·rw [Int.tdiv_eq_ediv_of_nonneg (by omega)]
  omega
set_option maxHeartbeats 3200000 in
set_option maxRecDepth 1000000 in
theorem SoR.heapSort_int (blk off len cap:Nat) (d:Array Int) (hlen:d.size=len) (a b:Nat) (w:World) (hH:Holds aeU w blk off d) (hab:a<=b) (hb:b<=d.size) (hsz:d.size<4611686018427387904) :
  Calls Tryz.prog 233 #[.slice (some ⟨blk,off,none⟩) len cap,.int .i64 a,.int .i64 b] w fun e w'=>e=.returned (.tuple #[])/\∃ n,w'=putRow aeU (Sort.ahead w n) blk off (heapSort ltInt d a b):=by
 subst hlen
 have aOg:((b-a:Nat):Int)=(b:Int)-(a:Int):=by omega
 go_enter Tryz.func233,Tryz.ntmps233
 go_wp2
 go_loopg [9] ((b-a-1)/2+1) (fun k s9 wr=>s9=.int .i64 ((k:Int)-1)/\k<=(b-a-1)/2+1/\∃ (dk:Array Int) (n:Nat),dk.size=d.size/\wr=putRow aeU (Sort.ahead w n) blk off dk /\
  heapBuild ltInt (b-a) a k dk=heapBuild ltInt (b-a) a ((b-a-1)/2+1) d)
 case atStart=>exact ⟨by rw [aFQ hab],Nat.le_refl _,d,0,rfl,(putRow_self aeU w blk off d hH).symm,rfl⟩
 case round =>
  obtain ⟨rfl,hkk,dk,n,hds,hwr,heq⟩:=hrel
  have hHk:Holds aeU wr blk off dk:=by rw [hwr];exact holds_putRow aeU _ blk off d dk (holds_ahead aeU w n blk off d hH) hds
  have A:Aside (wr=putRow aeU (Sort.ahead w n) blk off dk):=hwr;clear hwr
  cases gk with
  | zero =>
   have hB:dk=heapBuild ltInt (b-a) a ((b-a-1)/2+1) d:=heq;clear heq hHk hkk
   go_wp2
   go_loopg [10] (b-a) (fun k s10 wr2=>s10=.int .i64 ((k:Int)-1)/\k<=b-a/\∃ (dj:Array Int) (n2:Nat),dj.size=d.size/\wr2=putRow aeU (Sort.ahead w n2) blk off dj/\heapPop ltInt a k dj=heapPop ltInt a (b-a) dk)
   case atStart=>exact ⟨by rw [aOg],Nat.le_refl _,dk,n,hds,A.out,rfl⟩
   case round =>
    obtain ⟨rfl,hkk,dj,n2,hdj,aPK,aPL⟩:=hrel
    cases gk with
    | zero =>
     go_wp2
     go_end0;refine ⟨rfl,n2,?_⟩
     have e:dj=heapSort ltInt d a b:=by rw [heapSort,<- hB,<- aPL];rfl
     rw [<- e]
    | succ k =>
     have hHj:Holds aeU wr blk off dj:=by rw [aPK];exact holds_putRow aeU _ blk off d dj (holds_ahead aeU w n2 blk off d hH) hdj
     have hcw:∀ t,t<d.size->wr.cell? ⟨blk,off+t,none⟩=some (.int .u32 dj[t]!):=fun t ht=>(hHj t (by omega)).1
     have hfw:∀ t,t<d.size->wr.frozen? ⟨blk,off+t,none⟩=false:=fun t ht=>(hHj t (by omega)).2
     have A2:Aside (wr=putRow aeU (Sort.ahead w n2) blk off dj):=aPK;clear aPK hHj
     rcases Nat.eq_zero_or_pos k with hk0 | hkp
     ·subst hk0
      go_wp2_with fail
      go_region
      go_wp2_with fail;rw [aks aeU (i:=a) (j:=a) (by omega) (by omega) A2.out rfl rfl];refine (SoR.siftDown_int blk off d.size cap (swp dj a (a)) (by rw [size_swp];exact hdj) 0 0 a _ (holds_putRow aeU _ blk off d _ (holds_ahead aeU w (n2+1) blk off d hH) (by rw [size_swp];exact hdj)) (Nat.zero_le _) (by rw [size_swp];omega) (by rw [size_swp];omega)).mono ?_;rintro e w1 ⟨rfl,m,hw1⟩
      go_wp2
      go_roundg 0
      case measure=>omega
      case rel =>
       refine ⟨by simp,by omega,siftDown ltInt 0 a 0 (swp dj a (a)),n2+1+m,by rw [afW ltInt _ _ _ _ _ (Nat.le_refl _),size_swp];exact hdj,?_,aPL⟩
       first
        | rw [hw1,putRow_ahead_putRow aeU w (n2+1) m blk off _ _ (afW ltInt _ _ _ _ _ (Nat.le_refl _))]
        | rw [putRow_ahead_putRow aeU w (n2+1) m blk off _ _ (afW ltInt _ _ _ _ _ (Nat.le_refl _))]
     ·skip
      go_wp2_with fail
      go_region
      go_wp2_with fail;rw [aks aeU (i:=a) (j:=a+k) (by omega) (by omega) A2.out rfl rfl];refine (SoR.siftDown_int blk off d.size cap (swp dj a (a+k)) (by rw [size_swp];exact hdj) 0 k a _ (holds_putRow aeU _ blk off d _ (holds_ahead aeU w (n2+1) blk off d hH) (by rw [size_swp];exact hdj)) (Nat.zero_le _) (by rw [size_swp];omega) (by rw [size_swp];omega)).mono ?_;rintro e w1 ⟨rfl,m,hw1⟩
      go_wp2
      go_roundg k
      case measure=>omega
      case rel =>
       refine ⟨by simp,by omega,siftDown ltInt k a 0 (swp dj a (a+k)),n2+1+m,by rw [afW ltInt _ _ _ _ _ (Nat.le_refl _),size_swp];exact hdj,?_,aPL⟩
       first
        | rw [hw1,putRow_ahead_putRow aeU w (n2+1) m blk off _ _ (afW ltInt _ _ _ _ _ (Nat.le_refl _))]
        | rw [putRow_ahead_putRow aeU w (n2+1) m blk off _ _ (afW ltInt _ _ _ _ _ (Nat.le_refl _))]
  | succ k =>
   have aOh:=SoR.siftDown_int blk off d.size cap dk hds k (b-a) a wr hHk (by omega) (by omega) (by omega);rw [aOg] at aOh
   go_wp2_with (go_at_call 243;refine aOh.mono ?_;rintro e w1 ⟨rfl,m,hw1⟩)
   go_roundg k
   case measure=>omega
   case rel =>
    refine ⟨by simp,by omega,siftDown ltInt (b-a) a k dk,n+m,by rw [afW ltInt _ _ _ _ _ (Nat.le_refl _)];exact hds,?_,heq⟩;rw [A.out,putRow_ahead_putRow aeU w n m blk off dk _ (afW ltInt _ _ _ _ _ (Nat.le_refl _))]
end Go.Proofs.YtdackeldhdchaaaGreat.Srt
namespace Go.Proofs.YtdackeldhdchaaaGreat.Srt
open Go.RowKit Go.Sort
theorem agC {α : Type} [Inhabited α] (enc:α->Value) (w:World) (blk off:Nat) (dk:Array α) (n i j:Nat) (hi:i<dk.size) (hj:j<dk.size) :
  ((((putRow enc w blk off dk).drewN n).setCell ⟨blk,off+i,none⟩ (enc dk[j]!)).setCell ⟨blk,off+j,none⟩ (enc dk[i]!)).drew=(putRow enc w blk off (swp dk i j)).drewN (n+1):=by
 rw [<- putRow_swp enc w blk off dk i j hi hj];rfl
section
variable {α : Type} [Inhabited α]
theorem avT (p:α->Bool) (d:Array α) (j i:Nat) (h:i<=j) (hp:p d[i]! = true):scanUp p d j i=scanUp p d j (i+1):=by
 rw [scanUp,if_pos (by simp [h,hp])]
theorem akB (p:α->Bool) (d:Array α) (j i:Nat) (h:¬ i<=j\/p d[i]! = false):scanUp p d j i=i:=by
 rw [scanUp,if_neg (by rcases h with h | h <;> simp [h])]
theorem aq5 (p:α->Bool) (d:Array α) (i j:Nat) (h:i<=j) (h0:0<j) (hp:p d[j]! = true):scanDown p d i j=scanDown p d i (j-1):=by
 obtain ⟨k,rfl⟩ : ∃ k,j=k+1:=⟨j-1,by omega⟩;rw [scanDown,if_pos (by simp [h,hp])];rfl
theorem afJ (p:α->Bool) (d:Array α) (i j:Nat) (h:¬ i<=j\/p d[j]! = false):scanDown p d i j=j:=by
 cases j with
 | zero=>rfl
 | succ k=>rw [scanDown,if_neg (by rcases h with h | h <;> simp [h])]
variable (lt:α->α->Bool)
theorem auG (a i j:Nat) (dk:Array α) {i2 j2:Nat} (hi2:i2=scanUp (fun x=>!lt dk[a]! x) dk j i) (hj2:j2=scanDown (fun x=>lt dk[a]! x) dk i2 j) (h:j2<i2):partEqLoop lt a i j dk=(i2,dk):=by
 subst hi2;subst hj2
 rw [partEqLoop_eq,if_pos h]
theorem aHD (a i j:Nat) (dk:Array α) {i2 j2:Nat} (hi2:i2=scanUp (fun x=>!lt dk[a]! x) dk j i) (hj2:j2=scanDown (fun x=>lt dk[a]! x) dk i2 j) (h:¬ i2 > j2):partEqLoop lt a i j dk=partEqLoop lt a (i2+1) (j2-1) (swp dk i2 j2):=by
 subst hi2;subst hj2
 rw [partEqLoop_eq,if_neg h]
theorem aKe (a i j:Nat) (dk:Array α) (h0:0<i) {i2 j2:Nat} (hi2:i2=scanUp (fun x=>!lt dk[a]! x) dk j i) (hj2:j2=scanDown (fun x=>lt dk[a]! x) dk i2 j) (h:i2<=j2):i2<j2:=by
 subst hi2;subst hj2
 obtain ⟨u1,_,_,u4⟩:=scanUp_spec (fun x=>!lt dk[a]! x) dk j _ i rfl;obtain ⟨v1,_,_,v4⟩:=scanDown_spec (fun x=>lt dk[a]! x) dk (scanUp (fun x=>!lt dk[a]! x) dk j i) j
 rcases Nat.lt_or_ge (scanUp (fun x=>!lt dk[a]! x) dk j i) (scanDown (fun x=>lt dk[a]! x) dk (scanUp (fun x=>!lt dk[a]! x) dk j i) j) with h' | h'
 ·exact h'
 ·have e:scanDown (fun x=>lt dk[a]! x) dk (scanUp (fun x=>!lt dk[a]! x) dk j i) j=scanUp (fun x=>!lt dk[a]! x) dk j i:=by omega
  have f1:=u4 (by omega);have f2:=v4 h (by omega);rw [e] at f2
  simp only [f2] at f1
  cases f1
end
set_option maxHeartbeats 6400000 in
set_option maxRecDepth 100000 in
theorem SoR.partitionEqual_int (blk off cap a b pivot:Nat) (d:Array Int) (w:World) (hH:Holds (Value.int .u32) w blk off d) (hap:a<=pivot) (hpb:pivot<b) (hb:b<=d.size) (hsz:d.size<4611686018427387904) :
  Calls Tryz.prog 239 #[.slice (some ⟨blk,off,none⟩) d.size cap,.int .i64 a,.int .i64 b,.int .i64 pivot] w fun e w' =>
   e=.returned (.int .i64 (Sort.partitionEqual Sort.ltInt d a b pivot).1)/\∃ n,w'=(putRow (Value.int .u32) w blk off (Sort.partitionEqual Sort.ltInt d a b pivot).2).drewN n:=by
 have hla:a<d.size:=by omega
 have hlp:pivot<d.size:=by omega
 obtain ⟨G,hG⟩ : ∃ G:Nat->Int,∀ j,G j=d[j]! := ⟨fun j=>d[j]!,fun _=>rfl⟩
 have ca:w.cell? ⟨blk,off+a,none⟩=some (.int .u32 (G a)):=by rw [hG];exact (hH a hla).1
 have fa:=(hH a hla).2
 have cp:w.cell? ⟨blk,off+pivot,none⟩=some (.int .u32 (G pivot)):=by rw [hG];exact (hH pivot hlp).1
 have fp:=(hH pivot hlp).2;obtain ⟨v',hy'⟩:=cell?_setCell_some (w:=w) (p:=⟨blk,off+a,none⟩) (x:=.int .u32 (G pivot)) (q:=⟨blk,off+pivot,none⟩) cp;have AG:Hid (∀ j,G j=d[j]!):=hG;have AH:Hid (Holds (Value.int .u32) w blk off d):=hH;clear hG hH
 go_enter Tryz.func239,Tryz.ntmps239
 go_wp2
 go_region
 go_wp2
 go_loopw [9,10] (fun vi vj wr=>∃ (i j n:Nat) (dk:Array Int),vi=.int .i64 i/\vj=.int .i64 j/\a<i/\i<=j+1/\j<b/\dk.size=d.size/\wr=(putRow (Value.int .u32) w blk off dk).drewN n /\
   Sort.partEqLoop Sort.ltInt a i j dk=Sort.partEqLoop Sort.ltInt a (a+1) (b-1) (Sort.swp d a pivot))
  (fun vi vj _=>(intOf vj).toNat+1-(intOf vi).toNat)
 case atStart =>
  refine ⟨a+1,b-1,1,Sort.swp d a pivot,by go_num,by go_num,by omega,by omega,by omega,size_swp _ _ _,?_,rfl⟩;have e:=agC (Value.int .u32) w blk off d 0 a pivot hla hlp;rw [putRow_self _ w blk off d AH.out] at e;rw [AG.out a,AG.out pivot];exact e
 case round =>
  obtain ⟨i,j,n,dk,rfl,rfl,hai,hij,hjb,hs,hw,heq⟩:=hrel;clear ca fa cp fp hy' v' AG
  rename World=>W1
  have hHk:Holds (Value.int .u32) W1 blk off dk:=by
   rw [hw];exact holds_putRow (Value.int .u32) w blk off d dk AH.out hs
  obtain ⟨Gk,hG⟩ : ∃ Gk:Nat->Int,∀ t,Gk t=dk[t]! := ⟨fun t=>dk[t]!,fun _=>rfl⟩
  have hc:∀ t,t<d.size->W1.cell? ⟨blk,off+t,none⟩=some (.int .u32 (Gk t)):=fun t ht=>by rw [hG];exact (hHk t (by omega)).1
  have hf:∀ t,t<d.size->W1.frozen? ⟨blk,off+t,none⟩=false:=fun t ht=>(hHk t (by omega)).2
  have AG:Hid (∀ t,Gk t=dk[t]!):=hG;have AW:Hid (W1=(putRow (Value.int .u32) w blk off dk).drewN n):=hw;have AE:Hid (Sort.partEqLoop Sort.ltInt a i j dk=Sort.partEqLoop Sort.ltInt a (a+1) (b-1) (Sort.swp d a pivot)):=heq;clear hG hw heq hHk
  go_wp2
  go_loopw [9] (fun vi w1=>∃ (i' n1:Nat),vi=.int .i64 i'/\i<=i'/\i'<=j+1/\w1=W1.drewN n1 /\
    Hid (Sort.scanUp (fun x=>!Sort.ltInt dk[a]! x) dk j i'=Sort.scanUp (fun x=>!Sort.ltInt dk[a]! x) dk j i))
   (fun vi _=>j+1-(intOf vi).toNat)
  case atStart=>exact ⟨i,0,rfl,Nat.le_refl _,hij,rfl,rfl⟩
  case round =>
   obtain ⟨i',n1,rfl,hii,aDX,hw1,hsc⟩:=hrel
   have hcw:∀ t,t<d.size->wr.cell? ⟨blk,off+t,none⟩=some (.int .u32 (Gk t)):=fun t ht=>by rw [hw1];exact hc t ht
   have HW1:Hid (wr=W1.drewN n1):=hw1;clear hw1
   by_cases hle:i'<=j
   ·go_wp2_with fail
    go_big_quiet (first | (go_at_call 238;refine Calls.quiet_of_same (SoR.cmp_Less_int _ _ _)))
    go_wp2
    ·-- it goes on: i++
     have ht:(!Sort.ltInt (Gk a) (Gk i'))=true:=by assumption
     go_roundw
     case rel=>exact ⟨i'+1,n1+nq,by go_num,by omega,by omega,by rw [HW1.out,World.drewN_drewN],(avT (fun x=>!Sort.ltInt dk[a]! x) dk j i' hle (by rw [<- AG.out a,<- AG.out i'];exact ht)).symm.trans hsc.out⟩
     case measure=>simp [intOf];omega
    ·-- it stops: the test has failed
     have ht:(!Sort.ltInt (Gk a) (Gk i'))=false:=by assumption
     have hi2:Hid (i'=Sort.scanUp (fun x=>!Sort.ltInt dk[a]! x) dk j i):=(akB (fun x=>!Sort.ltInt dk[a]! x) dk j i' (Or.inr (by rw [<- AG.out a,<- AG.out i'];exact ht))).symm.trans hsc.out;clear ht
     have hw2:wr.drewN nq=W1.drewN (n1+nq):=by rw [HW1.out,World.drewN_drewN]
     clear hcw HW1 hsc
     go_loopw [10] (fun vj w2=>∃ (j' n2:Nat),vj=.int .i64 j'/\j'<=j/\i'<=j'+1/\w2=W1.drewN n2 /\
       Hid (Sort.scanDown (fun x=>Sort.ltInt dk[a]! x) dk i' j'=Sort.scanDown (fun x=>Sort.ltInt dk[a]! x) dk i' j))
      (fun vj _=>(intOf vj).toNat)
     case atStart=>exact ⟨j,n1+nq,rfl,Nat.le_refl _,aDX,hw2,rfl⟩
     case round =>
      clear hw2;obtain ⟨j',n2,rfl,hjj,aKf,hw2,hsd⟩:=hrel
      have hcw:∀ t,t<d.size->wr.cell? ⟨blk,off+t,none⟩=some (.int .u32 (Gk t)):=fun t ht=>by rw [hw2];exact hc t ht
      have HW2:Hid (wr=W1.drewN n2):=hw2;clear hw2
      by_cases hle2:i'<=j'
      ·go_wp2_with fail
       go_big_quiet (first | (go_at_call 238;refine Calls.quiet_of_same (SoR.cmp_Less_int _ _ _)))
       go_wp2
       ·-- it goes on: j--
        have ht:Sort.ltInt (Gk a) (Gk j')=true:=by assumption
        go_roundw
        case rel=>exact ⟨j'-1,n2+nq,by go_num,by omega,by omega,by rw [HW2.out,World.drewN_drewN],(aq5 (fun x=>Sort.ltInt dk[a]! x) dk i' j' hle2 (by omega) (by rw [<- AG.out a,<- AG.out j'];exact ht)).symm.trans hsd.out⟩
        case measure=>simp [intOf];omega
       ·-- it stops: the test has failed
        have ht:Sort.ltInt (Gk a) (Gk j')=false:=by assumption
        have hj2:Hid (j'=Sort.scanDown (fun x=>Sort.ltInt dk[a]! x) dk i' j):=(afJ (fun x=>Sort.ltInt dk[a]! x) dk i' j' (Or.inr (by rw [<- AG.out a,<- AG.out j'];exact ht))).symm.trans hsd.out;clear hcw hsd ht
        have hw3:wr.drewN nq=W1.drewN (n2+nq):=by rw [HW2.out,World.drewN_drewN]
        generalize wr.drewN nq=W3 at hw3 ⊢
        have hc3:∀ t,t<d.size->W3.cell? ⟨blk,off+t,none⟩=some (.int .u32 (Gk t)):=fun t ht=>by rw [hw3];exact hc t ht
        have hf3:∀ t,t<d.size->W3.frozen? ⟨blk,off+t,none⟩=false:=fun t ht=>by rw [hw3];exact hf t ht
        have HW3:Hid (W3=W1.drewN (n2+nq)):=hw3;clear hw3;obtain ⟨v3,hy3⟩:=cell?_setCell_some (w:=W3) (p:=⟨blk,off+i',none⟩) (x:=.int .u32 (Gk j')) (q:=⟨blk,off+j',none⟩) (hc3 j' (by omega));have aSv:=aKe Sort.ltInt a i j dk (by omega) hi2.out hj2.out hle2
        go_wp2
        go_region
        all_goals go_wp2
        all_goals go_roundw
        case rel =>
         refine ⟨i'+1,j'-1,n+(n2+nq)+1,Sort.swp dk i' j',by go_num,by go_num,by omega,by omega,by omega,by rw [size_swp];exact hs,?_,?_⟩
         ·rw [HW3.out,AW.out,World.drewN_drewN,AG.out i',AG.out j']
          exact agC (Value.int .u32) w blk off dk _ i' j' (by omega) (by omega)
         ·rw [<- AE.out];exact (aHD Sort.ltInt a i j dk hi2.out hj2.out (by omega)).symm
        case measure=>simp [intOf];omega
      ·go_wp2_with fail
       go_big_quiet (first | (go_at_call 238;refine Calls.quiet_of_same (SoR.cmp_Less_int _ _ _)))
       have hj2:Hid (j'=Sort.scanDown (fun x=>Sort.ltInt dk[a]! x) dk i' j):=(afJ (fun x=>Sort.ltInt dk[a]! x) dk i' j' (Or.inl hle2)).symm.trans hsd.out;clear hcw hsd
       have hw3:wr.drewN nq=W1.drewN (n2+nq):=by rw [HW2.out,World.drewN_drewN]
       generalize wr.drewN nq=W3 at hw3 ⊢
       have hc3:∀ t,t<d.size->W3.cell? ⟨blk,off+t,none⟩=some (.int .u32 (Gk t)):=fun t ht=>by rw [hw3];exact hc t ht
       have hf3:∀ t,t<d.size->W3.frozen? ⟨blk,off+t,none⟩=false:=fun t ht=>by rw [hw3];exact hf t ht
       have HW3:Hid (W3=W1.drewN (n2+nq)):=hw3;clear hw3
       go_wp2
       go_ret;have e:=auG Sort.ltInt a i j dk hi2.out hj2.out (by omega);refine ⟨?_,n+(n2+nq),?_⟩
       ·unfold Sort.partitionEqual;rw [<- AE.out,e];rfl
       ·unfold Sort.partitionEqual;rw [<- AE.out,e,HW3.out,AW.out,World.drewN_drewN]
   ·go_wp2_with fail
    go_big_quiet (first | (go_at_call 238;refine Calls.quiet_of_same (SoR.cmp_Less_int _ _ _)))
    go_wp2
    have hi2:Hid (i'=Sort.scanUp (fun x=>!Sort.ltInt dk[a]! x) dk j i):=(akB (fun x=>!Sort.ltInt dk[a]! x) dk j i' (Or.inl hle)).symm.trans hsc.out
    have hw2:wr.drewN nq=W1.drewN (n1+nq):=by rw [HW1.out,World.drewN_drewN]
    clear hcw HW1 hsc
    go_loopw [10] (fun vj w2=>∃ (j' n2:Nat),vj=.int .i64 j'/\j'<=j/\i'<=j'+1/\w2=W1.drewN n2 /\
      Hid (Sort.scanDown (fun x=>Sort.ltInt dk[a]! x) dk i' j'=Sort.scanDown (fun x=>Sort.ltInt dk[a]! x) dk i' j))
     (fun vj _=>(intOf vj).toNat)
    case atStart=>exact ⟨j,n1+nq,rfl,Nat.le_refl _,aDX,hw2,rfl⟩
    case round =>
     clear hw2;obtain ⟨j',n2,rfl,hjj,aKf,hw2,hsd⟩:=hrel
     have hcw:∀ t,t<d.size->wr.cell? ⟨blk,off+t,none⟩=some (.int .u32 (Gk t)):=fun t ht=>by rw [hw2];exact hc t ht
     have HW2:Hid (wr=W1.drewN n2):=hw2;clear hw2
     by_cases hle2:i'<=j'
     ·exfalso;omega      -- the upward scan has run past j,and j'<=j
     ·go_wp2_with fail
      go_big_quiet (first | (go_at_call 238;refine Calls.quiet_of_same (SoR.cmp_Less_int _ _ _)))
      have hj2:Hid (j'=Sort.scanDown (fun x=>Sort.ltInt dk[a]! x) dk i' j):=(afJ (fun x=>Sort.ltInt dk[a]! x) dk i' j' (Or.inl hle2)).symm.trans hsd.out;clear hcw hsd
      have hw3:wr.drewN nq=W1.drewN (n2+nq):=by rw [HW2.out,World.drewN_drewN]
      generalize wr.drewN nq=W3 at hw3 ⊢
      have hc3:∀ t,t<d.size->W3.cell? ⟨blk,off+t,none⟩=some (.int .u32 (Gk t)):=fun t ht=>by rw [hw3];exact hc t ht
      have hf3:∀ t,t<d.size->W3.frozen? ⟨blk,off+t,none⟩=false:=fun t ht=>by rw [hw3];exact hf t ht
      have HW3:Hid (W3=W1.drewN (n2+nq)):=hw3;clear hw3
      go_wp2
      go_ret;have e:=auG Sort.ltInt a i j dk hi2.out hj2.out (by omega);refine ⟨?_,n+(n2+nq),?_⟩
      ·unfold Sort.partitionEqual;rw [<- AE.out,e];rfl
      ·unfold Sort.partitionEqual;rw [<- AE.out,e,HW3.out,AW.out,World.drewN_drewN]
theorem SoR.partitionEqualOrdered_int (blk off cap a b pivot:Nat) (d:Array Int) (w:World) (hH:Holds (Value.int .u32) w blk off d) (hap:a<=pivot) (hpb:pivot<b) (hb:b<=d.size) (hsz:d.size<4611686018427387904) :
  Calls Tryz.prog 239 #[.slice (some ⟨blk,off,none⟩) d.size cap,.int .i64 a,.int .i64 b,.int .i64 pivot] w fun e w' =>
   e=.returned (.int .i64 (Sort.partitionEqual Sort.ltInt d a b pivot).1)/\∃ n,w'=putRow (Value.int .u32) (Sort.ahead w n) blk off (Sort.partitionEqual Sort.ltInt d a b pivot).2 :=
 (SoR.partitionEqual_int blk off cap a b pivot d w hH hap hpb hb hsz).mono fun _ _ ⟨he,n,hw⟩=>⟨he,n,hw⟩
end Go.Proofs.YtdackeldhdchaaaGreat.Srt
