import Derived.Test.YtdackeldhdchaaaGreatPR1
import Derived.Test.YtdackeldhdchaaaGreatPR22
import Derived.Sort.Row
set_option maxRecDepth 100000
set_option maxHeartbeats 12800000
namespace Go.Proofs.YtdackeldhdchaaaGreat.Srt
open Go.RowKit Go.Sort
theorem Hid.mk' {p:Prop} (h:p):Hid p:=h
section
variable {α : Type} [Inhabited α] (lt:α->α->Bool)
theorem wE (a i j:Nat) (dk:Array α) {i2 j2:Nat} (dP:i2=scanUp (fun x=>lt x dk[a]!) dk j i) (ku:j2=scanDown (fun x=>!lt x dk[a]!) dk i2 j) (h:j2<i2):partLoop lt a i j dk=(j2,dk):=by
 subst dP;subst ku
 rw [partLoop_eq,if_pos h]
theorem Pj (a i j:Nat) (dk:Array α) {i2 j2:Nat} (dP:i2=scanUp (fun x=>lt x dk[a]!) dk j i) (ku:j2=scanDown (fun x=>!lt x dk[a]!) dk i2 j) (h:¬ i2 > j2):partLoop lt a i j dk=partLoop lt a (i2+1) (j2-1) (swp dk i2 j2):=by
 subst dP;subst ku
 rw [partLoop_eq,if_neg h]
theorem nY (a i j:Nat) (dk:Array α) (h0:0<i) {i2 j2:Nat} (dP:i2=scanUp (fun x=>lt x dk[a]!) dk j i) (ku:j2=scanDown (fun x=>!lt x dk[a]!) dk i2 j) (h:i2<=j2):i2<j2:=by
 subst dP;subst ku
 obtain ⟨u1,_,_,u4⟩:=scanUp_spec (fun x=>lt x dk[a]!) dk j _ i rfl;obtain ⟨v1,_,_,v4⟩:=scanDown_spec (fun x=>!lt x dk[a]!) dk (scanUp (fun x=>lt x dk[a]!) dk j i) j
 rcases Nat.lt_or_ge (scanUp (fun x=>lt x dk[a]!) dk j i) (scanDown (fun x=>!lt x dk[a]!) dk (scanUp (fun x=>lt x dk[a]!) dk j i) j) with h' | h'
 ·exact h'
 ·have e:scanDown (fun x=>!lt x dk[a]!) dk (scanUp (fun x=>lt x dk[a]!) dk j i) j=scanUp (fun x=>lt x dk[a]!) dk j i:=by omega
  have f1:=u4 (by omega);have f2:=v4 h (by omega);rw [e] at f2
  simp only [f1] at f2
  cases f2
theorem kL (d:Array α) (a b pivot:Nat) {i j:Nat} {dk:Array α} {i2 j2:Nat} (hi:i=a+1) (hj:j=b-1) (QM:dk=swp d a pivot) (dP:i2=scanUp (fun x=>lt x dk[a]!) dk j i) (ku:j2=scanDown (fun x=>!lt x dk[a]!) dk i2 j) (h:j2<i2) :
  partition lt d a b pivot=(j2,true,swp dk j2 a):=by
 subst hi;subst hj;subst QM;subst dP;subst ku
 unfold partition
 simp only []
 rw [if_pos h]
theorem yf (d:Array α) (a b pivot:Nat) {i j:Nat} {dk:Array α} {i2 j2:Nat} (hi:i=a+1) (hj:j=b-1) (QM:dk=swp d a pivot) (dP:i2=scanUp (fun x=>lt x dk[a]!) dk j i) (ku:j2=scanDown (fun x=>!lt x dk[a]!) dk i2 j) (h:¬ i2 > j2) :
  partition lt d a b pivot=((partLoop lt a (i2+1) (j2-1) (swp dk i2 j2)).1,false,swp (partLoop lt a (i2+1) (j2-1) (swp dk i2 j2)).2 (partLoop lt a (i2+1) (j2-1) (swp dk i2 j2)).1 a):=by
 subst hi;subst hj;subst QM;subst dP;subst ku
 unfold partition
 simp only []
 rw [if_neg h]
end
theorem SoR.partition_int (blk off cap a b pivot:Nat) (d:Array Int) (w:World) (hH:Holds (Value.int .u32) w blk off d) (J5:a<=pivot) (hpb:pivot<b) (hb:b<=d.size) (df:d.size<4611686018427387904) :
  Calls Tryz.prog 240 #[.slice (some ⟨blk,off,none⟩) d.size cap,.int .i64 a,.int .i64 b,.int .i64 pivot] w fun e w' =>
   e=.returned (.tuple #[.int .i64 (Sort.partition Sort.ltInt d a b pivot).1,.bool (Sort.partition Sort.ltInt d a b pivot).2.1])/\∃ n,w'=(putRow (Value.int .u32) w blk off (Sort.partition Sort.ltInt d a b pivot).2.2).drewN n:=by
 have Oa:a<d.size:=by omega
 have Jf:pivot<d.size:=by omega
 obtain ⟨G,hG⟩ : ∃ G:Nat->Int,∀ j,G j=d[j]! := ⟨fun j=>d[j]!,fun _=>rfl⟩
 have ca:w.cell? ⟨blk,off+a,none⟩=some (.int .u32 (G a)):=by rw [hG];exact (hH a Oa).1
 have fa:=(hH a Oa).2
 have cp:w.cell? ⟨blk,off+pivot,none⟩=some (.int .u32 (G pivot)):=by rw [hG];exact (hH pivot Jf).1
 have fp:=(hH pivot Jf).2;obtain ⟨v',Vu⟩:=cell?_setCell_some (w:=w) (p:=⟨blk,off+a,none⟩) (x:=.int .u32 (G pivot)) (q:=⟨blk,off+pivot,none⟩) cp
 have hw:((w.setCell ⟨blk,off+a,none⟩ (.int .u32 (G pivot))).setCell ⟨blk,off+pivot,none⟩ (.int .u32 (G a))).drew=(putRow (Value.int .u32) w blk off (Sort.swp d a pivot)).drewN 1:=by
  have e:=dU (Value.int .u32) w blk off d 0 a pivot Oa Jf;rw [putRow_self _ w blk off d hH] at e;rw [hG a,hG pivot];exact e
 have AH:Hid (Holds (Value.int .u32) w blk off d):=hH;have yL:=Hid.mk' hw;clear hG hH hw
 go_enter Tryz.func240,Tryz.ntmps240
 go_wp2
 go_region
 go_wp2
 clear ca fa cp fp Vu v';have hw:=yL.out;clear yL;generalize ((w.setCell ⟨blk,off+a,none⟩ (.int .u32 (G pivot))).setCell ⟨blk,off+pivot,none⟩ (.int .u32 (G a))).drew=W1 at hw ⊢;obtain ⟨dk,QM⟩ : ∃ dk,dk=Sort.swp d a pivot:=⟨_,rfl⟩;obtain ⟨n,hn⟩ : ∃ n:Nat,n=1:=⟨_,rfl⟩;rw [<- QM,<- hn] at hw;clear hn
 have hs:dk.size=d.size:=by rw [QM,size_swp]
 have e1:((a:Int)+1)=((a+1:Nat):Int):=by omega
 have e2:((b:Int)-1)=((b-1:Nat):Int):=by omega
 rw [e1,e2];clear e1 e2;obtain ⟨i,hi⟩ : ∃ i,i=a+1:=⟨_,rfl⟩;obtain ⟨j,hj⟩ : ∃ j,j=b-1:=⟨_,rfl⟩;rw [<- hi,<- hj]
 have Y0:a<i:=by omega
 have TA:i<=j+1:=by omega
 have WW:j<b:=by omega
 have HI:=Hid.mk' hi;have HJ:=Hid.mk' hj;have HDK:=Hid.mk' QM;clear hi hj QM
 have rZ:Holds (Value.int .u32) W1 blk off dk:=by
  rw [hw];exact holds_putRow (Value.int .u32) w blk off d dk AH.out hs
 obtain ⟨Gk,hG⟩ : ∃ Gk:Nat->Int,∀ t,Gk t=dk[t]! := ⟨fun t=>dk[t]!,fun _=>rfl⟩
 have hc:∀ t,t<d.size->W1.cell? ⟨blk,off+t,none⟩=some (.int .u32 (Gk t)):=fun t ht=>by rw [hG];exact (rZ t (by omega)).1
 have hf:∀ t,t<d.size->W1.frozen? ⟨blk,off+t,none⟩=false:=fun t ht=>(rZ t (by omega)).2
 have AG:Hid (∀ t,Gk t=dk[t]!):=hG;have AW:Hid (W1=(putRow (Value.int .u32) w blk off dk).drewN n):=hw;clear hG hw rZ
 go_loopw [10] (fun vi w1=>∃ (i' n1:Nat),vi=.int .i64 i'/\i<=i'/\i'<=j+1/\w1=W1.drewN n1 /\
   Hid (Sort.scanUp (fun x=>Sort.ltInt x dk[a]!) dk j i'=Sort.scanUp (fun x=>Sort.ltInt x dk[a]!) dk j i))
  (fun vi _=>j+1-(intOf vi).toNat)
 case atStart=>exact ⟨i,0,rfl,Nat.le_refl _,TA,rfl,rfl⟩
 case round =>
  obtain ⟨i',n1,rfl,hii,CP,mg,hsc⟩:=hrel
  have kR:∀ t,t<d.size->wr.cell? ⟨blk,off+t,none⟩=some (.int .u32 (Gk t)):=fun t ht=>by rw [mg];exact hc t ht
  have uC:Hid (wr=W1.drewN n1):=mg;clear mg
  by_cases hle:i'<=j
  ·go_wp2_with fail
   go_big_quiet (first | (go_at_call 238;refine Calls.quiet_of_same (SoR.cmp_Less_int _ _ _)))
   go_wp2
   ·-- it goes on: i++
    have ht:Sort.ltInt (Gk i') (Gk a)=true:=by assumption
    go_roundw
    case rel=>exact ⟨i'+1,n1+nq,by go_num,by omega,by omega,by rw [uC.out,World.drewN_drewN],(ry (fun x=>Sort.ltInt x dk[a]!) dk j i' hle (by rw [<- AG.out a,<- AG.out i'];exact ht)).symm.trans hsc.out⟩
    case measure=>simp [intOf];omega
   ·-- it stops: the test has failed
    have ht:Sort.ltInt (Gk i') (Gk a)=false:=by assumption
    have dP:Hid (i'=Sort.scanUp (fun x=>Sort.ltInt x dk[a]!) dk j i):=(iQ (fun x=>Sort.ltInt x dk[a]!) dk j i' (Or.inr (by rw [<- AG.out a,<- AG.out i'];exact ht))).symm.trans hsc.out;clear ht
    have eQ:wr.drewN nq=W1.drewN (n1+nq):=by rw [uC.out,World.drewN_drewN]
    clear kR uC hsc
    go_loopw [11] (fun vj w2=>∃ (j' n2:Nat),vj=.int .i64 j'/\j'<=j/\i'<=j'+1/\w2=W1.drewN n2 /\
      Hid (Sort.scanDown (fun x=>!Sort.ltInt x dk[a]!) dk i' j'=Sort.scanDown (fun x=>!Sort.ltInt x dk[a]!) dk i' j))
     (fun vj _=>(intOf vj).toNat)
    case atStart=>exact ⟨j,n1+nq,rfl,Nat.le_refl _,CP,eQ,rfl⟩
    case round =>
     clear eQ;obtain ⟨j',n2,rfl,WZ,Lu,eQ,su⟩:=hrel
     have kR:∀ t,t<d.size->wr.cell? ⟨blk,off+t,none⟩=some (.int .u32 (Gk t)):=fun t ht=>by rw [eQ];exact hc t ht
     have tY:Hid (wr=W1.drewN n2):=eQ;clear eQ
     by_cases hle2:i'<=j'
     ·go_wp2_with fail
      go_big_quiet (first | (go_at_call 238;refine Calls.quiet_of_same (SoR.cmp_Less_int _ _ _)))
      go_wp2
      ·-- it goes on: j--
       have ht:(!Sort.ltInt (Gk j') (Gk a))=true:=by assumption
       go_roundw
       case rel=>exact ⟨j'-1,n2+nq,by go_num,by omega,by omega,by rw [tY.out,World.drewN_drewN],(mZ (fun x=>!Sort.ltInt x dk[a]!) dk i' j' hle2 (by omega) (by rw [<- AG.out a,<- AG.out j'];exact ht)).symm.trans su.out⟩
       case measure=>simp [intOf];omega
      ·-- it stops: the test has failed
       have ht:(!Sort.ltInt (Gk j') (Gk a))=false:=by assumption
       have ku:Hid (j'=Sort.scanDown (fun x=>!Sort.ltInt x dk[a]!) dk i' j):=(dI (fun x=>!Sort.ltInt x dk[a]!) dk i' j' (Or.inr (by rw [<- AG.out a,<- AG.out j'];exact ht))).symm.trans su.out;clear kR su ht
       have fU:wr.drewN nq=W1.drewN (n2+nq):=by rw [tY.out,World.drewN_drewN]
       generalize wr.drewN nq=W3 at fU ⊢
       have Be:∀ t,t<d.size->W3.cell? ⟨blk,off+t,none⟩=some (.int .u32 (Gk t)):=fun t ht=>by rw [fU];exact hc t ht
       have Bd:∀ t,t<d.size->W3.frozen? ⟨blk,off+t,none⟩=false:=fun t ht=>by rw [fU];exact hf t ht
       have Bg:Hid (W3=W1.drewN (n2+nq)):=fU;clear fU;obtain ⟨v3,hy3⟩:=cell?_setCell_some (w:=W3) (p:=⟨blk,off+i',none⟩) (x:=.int .u32 (Gk j')) (q:=⟨blk,off+j',none⟩) (Be j' (by omega));have W9:=nY Sort.ltInt a i j dk (by omega) dP.out ku.out hle2
       go_wp2
       go_region
       all_goals go_wp2
       obtain ⟨R,hR⟩ : ∃ R,R=Sort.partLoop Sort.ltInt a (i'+1) (j'-1) (Sort.swp dk i' j'):=⟨_,rfl⟩
       have HP:Hid (Sort.partition Sort.ltInt d a b pivot=(R.1,false,Sort.swp R.2 R.1 a)):=by rw [hR];exact yf Sort.ltInt d a b pivot HI.out HJ.out HDK.out dP.out ku.out (by omega)
       have kP:((W3.setCell ⟨blk,off+i',none⟩ (.int .u32 (Gk j'))).setCell ⟨blk,off+j',none⟩ (.int .u32 (Gk i'))).drew=(putRow (Value.int .u32) w blk off (Sort.swp dk i' j')).drewN (n+(n2+nq)+1):=by
        rw [Bg.out,AW.out,World.drewN_drewN,AG.out i',AG.out j'];exact dU (Value.int .u32) w blk off dk _ i' j' (by omega) (by omega)
       have HR:Hid (R=Sort.partLoop Sort.ltInt a (i'+1) (j'-1) (Sort.swp dk i' j')):=hR;clear hR hc hf Be Bd hy3 Bg AW AG dP ku
       go_loopw [10,11] (fun vi vj wr=>∃ (i j n:Nat) (dk:Array Int),vi=.int .i64 i/\vj=.int .i64 j/\a<i/\i<=j+1/\j<b/\dk.size=d.size/\wr=(putRow (Value.int .u32) w blk off dk).drewN n /\
         Sort.partLoop Sort.ltInt a i j dk=R)
        (fun vi vj _=>(intOf vj).toNat+1-(intOf vi).toNat)
       case atStart=>exact ⟨i'+1,j'-1,_,Sort.swp dk i' j',by go_num,by go_num,by omega,by omega,by omega,by rw [size_swp];exact hs,kP,HR.out.symm⟩
       case round =>
        clear kP HR;obtain ⟨i,j,n,dk,rfl,rfl,Y0,TA,WW,hs,hw,heq⟩:=hrel
        rename World=>W1
        have AE:Hid (Sort.partLoop Sort.ltInt a i j dk=R):=heq;clear heq
        have rZ:Holds (Value.int .u32) W1 blk off dk:=by
         rw [hw];exact holds_putRow (Value.int .u32) w blk off d dk AH.out hs
        obtain ⟨Gk,hG⟩ : ∃ Gk:Nat->Int,∀ t,Gk t=dk[t]! := ⟨fun t=>dk[t]!,fun _=>rfl⟩
        have hc:∀ t,t<d.size->W1.cell? ⟨blk,off+t,none⟩=some (.int .u32 (Gk t)):=fun t ht=>by rw [hG];exact (rZ t (by omega)).1
        have hf:∀ t,t<d.size->W1.frozen? ⟨blk,off+t,none⟩=false:=fun t ht=>(rZ t (by omega)).2
        have AG:Hid (∀ t,Gk t=dk[t]!):=hG;have AW:Hid (W1=(putRow (Value.int .u32) w blk off dk).drewN n):=hw;clear hG hw rZ
        go_wp2
        go_loopw [10] (fun vi w1=>∃ (i' n1:Nat),vi=.int .i64 i'/\i<=i'/\i'<=j+1/\w1=W1.drewN n1 /\
          Hid (Sort.scanUp (fun x=>Sort.ltInt x dk[a]!) dk j i'=Sort.scanUp (fun x=>Sort.ltInt x dk[a]!) dk j i))
         (fun vi _=>j+1-(intOf vi).toNat)
        case atStart=>exact ⟨i,0,rfl,Nat.le_refl _,TA,rfl,rfl⟩
        case round =>
         obtain ⟨i',n1,rfl,hii,CP,mg,hsc⟩:=hrel
         have kR:∀ t,t<d.size->wr.cell? ⟨blk,off+t,none⟩=some (.int .u32 (Gk t)):=fun t ht=>by rw [mg];exact hc t ht
         have uC:Hid (wr=W1.drewN n1):=mg;clear mg
         by_cases hle:i'<=j
         ·go_wp2_with fail
          go_big_quiet (first | (go_at_call 238;refine Calls.quiet_of_same (SoR.cmp_Less_int _ _ _)))
          go_wp2
          ·-- it goes on: i++
           have ht:Sort.ltInt (Gk i') (Gk a)=true:=by assumption
           go_roundw
           case rel=>exact ⟨i'+1,n1+nq,by go_num,by omega,by omega,by rw [uC.out,World.drewN_drewN],(ry (fun x=>Sort.ltInt x dk[a]!) dk j i' hle (by rw [<- AG.out a,<- AG.out i'];exact ht)).symm.trans hsc.out⟩
           case measure=>simp [intOf];omega
          ·-- it stops: the test has failed
           have ht:Sort.ltInt (Gk i') (Gk a)=false:=by assumption
           have dP:Hid (i'=Sort.scanUp (fun x=>Sort.ltInt x dk[a]!) dk j i):=(iQ (fun x=>Sort.ltInt x dk[a]!) dk j i' (Or.inr (by rw [<- AG.out a,<- AG.out i'];exact ht))).symm.trans hsc.out;clear ht
           have eQ:wr.drewN nq=W1.drewN (n1+nq):=by rw [uC.out,World.drewN_drewN]
           clear kR uC hsc
           go_loopw [11] (fun vj w2=>∃ (j' n2:Nat),vj=.int .i64 j'/\j'<=j/\i'<=j'+1/\w2=W1.drewN n2 /\
             Hid (Sort.scanDown (fun x=>!Sort.ltInt x dk[a]!) dk i' j'=Sort.scanDown (fun x=>!Sort.ltInt x dk[a]!) dk i' j))
            (fun vj _=>(intOf vj).toNat)
           case atStart=>exact ⟨j,n1+nq,rfl,Nat.le_refl _,CP,eQ,rfl⟩
           case round =>
            clear eQ;obtain ⟨j',n2,rfl,WZ,Lu,eQ,su⟩:=hrel
            have kR:∀ t,t<d.size->wr.cell? ⟨blk,off+t,none⟩=some (.int .u32 (Gk t)):=fun t ht=>by rw [eQ];exact hc t ht
            have tY:Hid (wr=W1.drewN n2):=eQ;clear eQ
            by_cases hle2:i'<=j'
            ·go_wp2_with fail
             go_big_quiet (first | (go_at_call 238;refine Calls.quiet_of_same (SoR.cmp_Less_int _ _ _)))
             go_wp2
             ·-- it goes on: j--
              have ht:(!Sort.ltInt (Gk j') (Gk a))=true:=by assumption
              go_roundw
              case rel=>exact ⟨j'-1,n2+nq,by go_num,by omega,by omega,by rw [tY.out,World.drewN_drewN],(mZ (fun x=>!Sort.ltInt x dk[a]!) dk i' j' hle2 (by omega) (by rw [<- AG.out a,<- AG.out j'];exact ht)).symm.trans su.out⟩
              case measure=>simp [intOf];omega
             ·-- it stops: the test has failed
              have ht:(!Sort.ltInt (Gk j') (Gk a))=false:=by assumption
              have ku:Hid (j'=Sort.scanDown (fun x=>!Sort.ltInt x dk[a]!) dk i' j):=(dI (fun x=>!Sort.ltInt x dk[a]!) dk i' j' (Or.inr (by rw [<- AG.out a,<- AG.out j'];exact ht))).symm.trans su.out;clear kR su ht
              have fU:wr.drewN nq=W1.drewN (n2+nq):=by rw [tY.out,World.drewN_drewN]
              generalize wr.drewN nq=W3 at fU ⊢
              have Be:∀ t,t<d.size->W3.cell? ⟨blk,off+t,none⟩=some (.int .u32 (Gk t)):=fun t ht=>by rw [fU];exact hc t ht
              have Bd:∀ t,t<d.size->W3.frozen? ⟨blk,off+t,none⟩=false:=fun t ht=>by rw [fU];exact hf t ht
              have Bg:Hid (W3=W1.drewN (n2+nq)):=fU;clear fU;obtain ⟨v3,hy3⟩:=cell?_setCell_some (w:=W3) (p:=⟨blk,off+i',none⟩) (x:=.int .u32 (Gk j')) (q:=⟨blk,off+j',none⟩) (Be j' (by omega));have W9:=nY Sort.ltInt a i j dk (by omega) dP.out ku.out hle2
              go_wp2
              go_region
              all_goals go_wp2
              all_goals go_roundw
              case rel =>
               refine ⟨i'+1,j'-1,n+(n2+nq)+1,Sort.swp dk i' j',by go_num,by go_num,by omega,by omega,by omega,by rw [size_swp];exact hs,?_,?_⟩
               ·rw [Bg.out,AW.out,World.drewN_drewN,AG.out i',AG.out j']
                exact dU (Value.int .u32) w blk off dk _ i' j' (by omega) (by omega)
               ·exact (Pj Sort.ltInt a i j dk dP.out ku.out (by omega)).symm.trans AE.out
              case measure=>simp [intOf];omega
            ·go_wp2_with fail
             go_big_quiet (first | (go_at_call 238;refine Calls.quiet_of_same (SoR.cmp_Less_int _ _ _)))
             have ku:Hid (j'=Sort.scanDown (fun x=>!Sort.ltInt x dk[a]!) dk i' j):=(dI (fun x=>!Sort.ltInt x dk[a]!) dk i' j' (Or.inl hle2)).symm.trans su.out;clear kR su
             have fU:wr.drewN nq=W1.drewN (n2+nq):=by rw [tY.out,World.drewN_drewN]
             generalize wr.drewN nq=W3 at fU ⊢
             have Be:∀ t,t<d.size->W3.cell? ⟨blk,off+t,none⟩=some (.int .u32 (Gk t)):=fun t ht=>by rw [fU];exact hc t ht
             have Bd:∀ t,t<d.size->W3.frozen? ⟨blk,off+t,none⟩=false:=fun t ht=>by rw [fU];exact hf t ht
             have Bg:Hid (W3=W1.drewN (n2+nq)):=fU;clear fU;obtain ⟨v3,hy3⟩:=cell?_setCell_some (w:=W3) (p:=⟨blk,off+j',none⟩) (x:=.int .u32 (Gk a)) (q:=⟨blk,off+a,none⟩) (Be a (by omega))
             have hlj:j'<d.size:=by omega
             go_wp2
             go_region
             all_goals go_wp2
             all_goals go_ret2
             have e:Sort.partition Sort.ltInt d a b pivot=(j',false,Sort.swp dk j' a):=by
              have e0:=(wE Sort.ltInt a i j dk dP.out ku.out (by omega)).symm.trans AE.out;rw [HP.out,<- e0]
             refine ⟨?_,n+(n2+nq)+1,?_⟩
             ·rw [e];rfl
             ·rw [e,Bg.out,AW.out,World.drewN_drewN,AG.out a,AG.out j']
              exact dU (Value.int .u32) w blk off dk _ j' a (by omega) (by omega)
         ·go_wp2_with fail
          go_big_quiet (first | (go_at_call 238;refine Calls.quiet_of_same (SoR.cmp_Less_int _ _ _)))
          go_wp2
          have dP:Hid (i'=Sort.scanUp (fun x=>Sort.ltInt x dk[a]!) dk j i):=(iQ (fun x=>Sort.ltInt x dk[a]!) dk j i' (Or.inl hle)).symm.trans hsc.out
          have eQ:wr.drewN nq=W1.drewN (n1+nq):=by rw [uC.out,World.drewN_drewN]
          clear kR uC hsc
          go_loopw [11] (fun vj w2=>∃ (j' n2:Nat),vj=.int .i64 j'/\j'<=j/\i'<=j'+1/\w2=W1.drewN n2 /\
            Hid (Sort.scanDown (fun x=>!Sort.ltInt x dk[a]!) dk i' j'=Sort.scanDown (fun x=>!Sort.ltInt x dk[a]!) dk i' j))
           (fun vj _=>(intOf vj).toNat)
          case atStart=>exact ⟨j,n1+nq,rfl,Nat.le_refl _,CP,eQ,rfl⟩
          case round =>
           clear eQ;obtain ⟨j',n2,rfl,WZ,Lu,eQ,su⟩:=hrel
           have kR:∀ t,t<d.size->wr.cell? ⟨blk,off+t,none⟩=some (.int .u32 (Gk t)):=fun t ht=>by rw [eQ];exact hc t ht
           have tY:Hid (wr=W1.drewN n2):=eQ;clear eQ
           by_cases hle2:i'<=j'
           ·exfalso;omega      -- the upward scan has run past j,and j'<=j
           ·go_wp2_with fail
            go_big_quiet (first | (go_at_call 238;refine Calls.quiet_of_same (SoR.cmp_Less_int _ _ _)))
            have ku:Hid (j'=Sort.scanDown (fun x=>!Sort.ltInt x dk[a]!) dk i' j):=(dI (fun x=>!Sort.ltInt x dk[a]!) dk i' j' (Or.inl hle2)).symm.trans su.out;clear kR su
            have fU:wr.drewN nq=W1.drewN (n2+nq):=by rw [tY.out,World.drewN_drewN]
            generalize wr.drewN nq=W3 at fU ⊢
            have Be:∀ t,t<d.size->W3.cell? ⟨blk,off+t,none⟩=some (.int .u32 (Gk t)):=fun t ht=>by rw [fU];exact hc t ht
            have Bd:∀ t,t<d.size->W3.frozen? ⟨blk,off+t,none⟩=false:=fun t ht=>by rw [fU];exact hf t ht
            have Bg:Hid (W3=W1.drewN (n2+nq)):=fU;clear fU;obtain ⟨v3,hy3⟩:=cell?_setCell_some (w:=W3) (p:=⟨blk,off+j',none⟩) (x:=.int .u32 (Gk a)) (q:=⟨blk,off+a,none⟩) (Be a (by omega))
            have hlj:j'<d.size:=by omega
            go_wp2
            go_region
            all_goals go_wp2
            all_goals go_ret2
            have e:Sort.partition Sort.ltInt d a b pivot=(j',false,Sort.swp dk j' a):=by
             have e0:=(wE Sort.ltInt a i j dk dP.out ku.out (by omega)).symm.trans AE.out;rw [HP.out,<- e0]
            refine ⟨?_,n+(n2+nq)+1,?_⟩
            ·rw [e];rfl
            ·rw [e,Bg.out,AW.out,World.drewN_drewN,AG.out a,AG.out j']
             exact dU (Value.int .u32) w blk off dk _ j' a (by omega) (by omega)
     ·go_wp2_with fail
      go_big_quiet (first | (go_at_call 238;refine Calls.quiet_of_same (SoR.cmp_Less_int _ _ _)))
      have ku:Hid (j'=Sort.scanDown (fun x=>!Sort.ltInt x dk[a]!) dk i' j):=(dI (fun x=>!Sort.ltInt x dk[a]!) dk i' j' (Or.inl hle2)).symm.trans su.out;clear kR su
      have fU:wr.drewN nq=W1.drewN (n2+nq):=by rw [tY.out,World.drewN_drewN]
      generalize wr.drewN nq=W3 at fU ⊢
      have Be:∀ t,t<d.size->W3.cell? ⟨blk,off+t,none⟩=some (.int .u32 (Gk t)):=fun t ht=>by rw [fU];exact hc t ht
      have Bd:∀ t,t<d.size->W3.frozen? ⟨blk,off+t,none⟩=false:=fun t ht=>by rw [fU];exact hf t ht
      have Bg:Hid (W3=W1.drewN (n2+nq)):=fU;clear fU;obtain ⟨v3,hy3⟩:=cell?_setCell_some (w:=W3) (p:=⟨blk,off+j',none⟩) (x:=.int .u32 (Gk a)) (q:=⟨blk,off+a,none⟩) (Be a (by omega))
      have hlj:j'<d.size:=by omega
      go_wp2
      go_region
      all_goals go_wp2
      all_goals go_ret2
      have e:Sort.partition Sort.ltInt d a b pivot=(j',true,Sort.swp dk j' a):=kL Sort.ltInt d a b pivot HI.out HJ.out HDK.out dP.out ku.out (by omega);refine ⟨?_,n+(n2+nq)+1,?_⟩
      ·rw [e];rfl
      ·rw [e,Bg.out,AW.out,World.drewN_drewN,AG.out a,AG.out j']
       exact dU (Value.int .u32) w blk off dk _ j' a (by omega) (by omega)
  ·go_wp2_with fail
   go_big_quiet (first | (go_at_call 238;refine Calls.quiet_of_same (SoR.cmp_Less_int _ _ _)))
   go_wp2
   have dP:Hid (i'=Sort.scanUp (fun x=>Sort.ltInt x dk[a]!) dk j i):=(iQ (fun x=>Sort.ltInt x dk[a]!) dk j i' (Or.inl hle)).symm.trans hsc.out
   have eQ:wr.drewN nq=W1.drewN (n1+nq):=by rw [uC.out,World.drewN_drewN]
   clear kR uC hsc
   go_loopw [11] (fun vj w2=>∃ (j' n2:Nat),vj=.int .i64 j'/\j'<=j/\i'<=j'+1/\w2=W1.drewN n2 /\
     Hid (Sort.scanDown (fun x=>!Sort.ltInt x dk[a]!) dk i' j'=Sort.scanDown (fun x=>!Sort.ltInt x dk[a]!) dk i' j))
    (fun vj _=>(intOf vj).toNat)
   case atStart=>exact ⟨j,n1+nq,rfl,Nat.le_refl _,CP,eQ,rfl⟩
   case round =>
    clear eQ;obtain ⟨j',n2,rfl,WZ,Lu,eQ,su⟩:=hrel
    have kR:∀ t,t<d.size->wr.cell? ⟨blk,off+t,none⟩=some (.int .u32 (Gk t)):=fun t ht=>by rw [eQ];exact hc t ht
    have tY:Hid (wr=W1.drewN n2):=eQ;clear eQ
    by_cases hle2:i'<=j'
    ·exfalso;omega      -- the upward scan has run past j,and j'<=j
    ·go_wp2_with fail
     go_big_quiet (first | (go_at_call 238;refine Calls.quiet_of_same (SoR.cmp_Less_int _ _ _)))
     have ku:Hid (j'=Sort.scanDown (fun x=>!Sort.ltInt x dk[a]!) dk i' j):=(dI (fun x=>!Sort.ltInt x dk[a]!) dk i' j' (Or.inl hle2)).symm.trans su.out;clear kR su
     have fU:wr.drewN nq=W1.drewN (n2+nq):=by rw [tY.out,World.drewN_drewN]
     generalize wr.drewN nq=W3 at fU ⊢
     have Be:∀ t,t<d.size->W3.cell? ⟨blk,off+t,none⟩=some (.int .u32 (Gk t)):=fun t ht=>by rw [fU];exact hc t ht
     have Bd:∀ t,t<d.size->W3.frozen? ⟨blk,off+t,none⟩=false:=fun t ht=>by rw [fU];exact hf t ht
     have Bg:Hid (W3=W1.drewN (n2+nq)):=fU;clear fU;obtain ⟨v3,hy3⟩:=cell?_setCell_some (w:=W3) (p:=⟨blk,off+j',none⟩) (x:=.int .u32 (Gk a)) (q:=⟨blk,off+a,none⟩) (Be a (by omega))
     have hlj:j'<d.size:=by omega
     go_wp2
     go_region
     all_goals go_wp2
     all_goals go_ret2
     have e:Sort.partition Sort.ltInt d a b pivot=(j',true,Sort.swp dk j' a):=kL Sort.ltInt d a b pivot HI.out HJ.out HDK.out dP.out ku.out (by omega);refine ⟨?_,n+(n2+nq)+1,?_⟩
     ·rw [e];rfl
     ·rw [e,Bg.out,AW.out,World.drewN_drewN,AG.out a,AG.out j']
      exact dU (Value.int .u32) w blk off dk _ j' a (by omega) (by omega)
theorem SoR.partitionOrdered_int (blk off cap a b pivot:Nat) (d:Array Int) (w:World) (hH:Holds (Value.int .u32) w blk off d) (J5:a<=pivot) (hpb:pivot<b) (hb:b<=d.size) (df:d.size<4611686018427387904) :
  Calls Tryz.prog 240 #[.slice (some ⟨blk,off,none⟩) d.size cap,.int .i64 a,.int .i64 b,.int .i64 pivot] w fun e w' =>
   e=.returned (.tuple #[.int .i64 (Sort.partition Sort.ltInt d a b pivot).1,.bool (Sort.partition Sort.ltInt d a b pivot).2.1])/\∃ n,w'=putRow (Value.int .u32) (Sort.ahead w n) blk off (Sort.partition Sort.ltInt d a b pivot).2.2 :=
 (SoR.partition_int blk off cap a b pivot d w hH J5 hpb hb df).mono fun _ _ ⟨he,n,hw⟩=>⟨he,n,hw⟩
end Go.Proofs.YtdackeldhdchaaaGreat.Srt
