import Derived.Test.YtdackeldhdchaaaGreatPQ21
import Derived.Test.YtdackeldhdchaaaGreatPQ220
import Derived.Sort.Row
import Derived.Sort.LotD5
import Derived.Laws.Bits64
import Derived.Laws.Bits64b
import Derived.Sort.LotD3
import Derived.Deep.RegionWith
import Derived.WalkKit
import Derived.RowKit
set_option maxRecDepth 100000
set_option maxHeartbeats 1600000
namespace Go.Proofs.YtdackeldhdchaaaGreat.Srt
theorem auu {P:Go.Program} {c:Go.Code} {Q:Go.Exit->Go.Act->Go.World->Prop} {a:Go.Act} {w:Go.World} (h:Go.Code.wp P (Go.Code.loop c) Q a w):Go.Code.wp P (Go.Code.loop c) Q a w:=h
theorem ahg (n:Nat) {P:Go.Program} {o:Array Go.Oper} {b:Bool} {Q:Go.Exit->Go.Act->Go.World->Prop} {a:Go.Act} {w:Go.World} (h:Go.Code.wp P (Go.Code.region n o b) Q a w):Go.Code.wp P (Go.Code.region n o b) Q a w:=h
theorem akP {A B:Prop} (h:A/\B):A/\B:=h
theorem aMW {P:Go.Program} {f:Go.Func} {K:Go.Ending->Go.World->Prop} {e:Go.Exit} {a:Go.Act} {w:Go.World} (h:Go.bodyPost P f K e a w):Go.bodyPost P f K e a w:=h
open Go.RowKit Go.Sort
section
variable {α : Type} [Inhabited α] (lt:α->α->Bool)
theorem aAv (d:Array α) (b i:Nat) (h:i<b) (hl:lt d[i]! d[i-1]! = false):scanSorted lt d b i=scanSorted lt d b (i+1):=by
 rw [scanSorted];simp [h,hl]
theorem aqg (d:Array α) (b i:Nat) (h:¬ i<b\/lt d[i]! d[i-1]! = true):scanSorted lt d b i=i:=by
 rw [scanSorted]
 rcases h with h | h
 ·simp [h]
 ·simp [h]
theorem aCz (j:Nat) (d:Array α) (hj:1<=j) (hl:lt d[j]! d[j-1]! = true):shiftDown lt j d=shiftDown lt (j-1) (swp d j (j-1)):=by
 obtain ⟨k,rfl⟩ : ∃ k,j=k+1:=⟨j-1,by omega⟩;rw [shiftDown]
 simp only [Nat.add_sub_cancel] at hl ⊢
 simp [hl]
theorem aq4 (j:Nat) (d:Array α) (h:j=0\/lt d[j]! d[j-1]! = false):shiftDown lt j d=d:=by
 cases j with
 | zero=>rw [shiftDown]
 | succ k =>
  rw [shiftDown]
  simp only [Nat.add_sub_cancel] at h
  rcases h with h | h
  ·omega
  ·simp [h]
theorem atN (b j:Nat) (d:Array α) (hj:j<b) (hl:lt d[j]! d[j-1]! = true):shiftUp lt b j d=shiftUp lt b (j+1) (swp d j (j-1)):=by
 rw [shiftUp];simp [hj,hl]
theorem ait (b j:Nat) (d:Array α) (h:¬ j<b\/lt d[j]! d[j-1]! = false):shiftUp lt b j d=d:=by
 rw [shiftUp]
 rcases h with h | h
 ·simp [h]
 ·by_cases hj:j<b <;> simp [hj,h]
end
section
variable {α : Type} [Inhabited α] (lt:α->α->Bool)
theorem aMX (a b s i:Nat) (d:Array α) (hs:s<5) (hK:scanSorted lt d b i=b):partialIns lt a b (5-s) i d=(d,true):=by
 rw [show 5-s=(4-s)+1 by omega,partialIns_succ,if_pos hK]
theorem aJ8 (a b s i:Nat) (d:Array α) (hs:s<5) (hK:scanSorted lt d b i≠b) (h50:b-a<50):partialIns lt a b (5-s) i d=(d,false):=by
 rw [show 5-s=(4-s)+1 by omega,partialIns_succ,if_neg hK,if_pos h50]
theorem auv (a b s i k:Nat) (d:Array α) (hs:s<5) (hK:scanSorted lt d b i=k) (hkb:k≠b) (h50:¬ b-a<50) :
  partialIns lt a b (5-s) i d=partialIns lt a b (5-(s+1)) k (fixUp lt b k (fixDown lt a k (swp d k (k-1)))):=by
 rw [show 5-s=(4-s)+1 by omega,partialIns_succ,hK,if_neg hkb,if_neg h50,show 5-(s+1)=4-s by omega]
theorem aPH (a b i:Nat) (d:Array α):partialIns lt a b (5-5) i d=(d,false):=rfl
end
theorem SoR.partialInsertionSort_int (blk off cap a b:Nat) (d:Array Int) (w:World) (hH:Holds (Value.int .u32) w blk off d) (hab:a < b) (hb:b≤d.size) (hsz:d.size < 4611686018427387904) :
    Calls Tryz.prog 237 #[.slice (some ⟨blk,off,none⟩) d.size cap,.int .i64 a,.int .i64 b] w fun e w' =>
      e=.returned (.bool (Sort.partialInsertionSort ltInt d a b).2)∧∃ n,w'=putRow (Value.int .u32) (Sort.ahead w n) blk off (Sort.partialInsertionSort ltInt d a b).1:=by
  have HH:Hid (Holds (Value.int .u32) w blk off d):=hH;have HST:Hid (w=putRow (Value.int .u32) (Sort.ahead w 0) blk off d):=(putRow_self _ _ _ _ _ hH).symm;clear hH
  go_enter Tryz.func237,Tryz.ntmps237
  go_wp2
  go_loopw [7,8] (fun vi vs wr=>∃ (i s n:Nat) (dk:Array Int),vi=.int .i64 i∧vs=.int .i64 s∧s≤5∧a < i∧i≤b∧dk.size=d.size∧wr=putRow (Value.int .u32) (Sort.ahead w n) blk off dk ∧
      partialIns ltInt a b (5 - s) i dk=partialIns ltInt a b 5 (a + 1) d) (fun _ vs _=>5 - (intOf vs).toNat)
  case atStart=>exact ⟨a + 1,0,0,d,by go_num,rfl,by omega,by omega,by omega,rfl,HST.out,rfl⟩
  case round =>
    obtain ⟨i,s,n,dk,rfl,rfl,hs5,hai,hib,hsk,hwr,hO⟩:=hrel;have HO:Hid (partialIns ltInt a b (5 - s) i dk=partialIns ltInt a b 5 (a + 1) d):=hO;clear hO
    go_wp2
    · -- s < 5: the scan
      have hs:s < 5:=by omega
      go_loopw [7] (fun vi wr2=>∃ (k m:Nat),vi=.int .i64 k∧i≤k∧k≤b∧wr2=putRow (Value.int .u32) (Sort.ahead w m) blk off dk∧scanSorted ltInt dk b k=scanSorted ltInt dk b i) (fun vi _=>b - (intOf vi).toNat)
      case atStart=>exact ⟨i,n,rfl,Nat.le_refl _,hib,rfl,rfl⟩
      case round =>
        obtain ⟨k,m,rfl,hik,hkb,hw2,hS⟩:=hrel;obtain ⟨G,hG⟩ : ∃ G:Nat→Int,∀ t,G t=dk[t]! := ⟨fun t=>dk[t]!,fun _=>rfl⟩
        have hcw:∀ t,t < d.size→wr.cell? ⟨blk,off + t,none⟩=some (.int .u32 (G t)):=fun t ht=>by
          rw [hw2,hG]; exact cell?_putRow _ _ _ _ d dk (holds_ahead _ _ _ _ _ _ HH.out) hsk t (by omega)
        have hfw:∀ t,t < d.size→wr.frozen? ⟨blk,off + t,none⟩=false:=fun t ht=>by
          rw [hw2,frozen?_putRow]; exact ((holds_ahead _ _ m _ _ _ HH.out) t ht).2
        have HW:Hid (wr=putRow (Value.int .u32) (Sort.ahead w m) blk off dk):=hw2;have HG:Hid (∀ t,G t=dk[t]!):=hG;have HS:Hid (scanSorted ltInt dk b k=scanSorted ltInt dk b i):=hS;clear hw2 hG hS
        go_wp2
        by_cases hkb':k < b
        · go_quiet (first | (go_at_call 238; refine Calls.quiet_of_same (SoR.cmp_Less_int _ _ _)))
          go_wp2
          all_goals first
            | (with_reducible refine akP ?_
               have hl:ltInt (G k) (G (k - 1))=false:=by
                 have h:(!ltInt (G k) (G (k - 1)))=true:=by assumption
                 simpa using h
               go_roundw
               case rel=>exact ⟨k + 1,m + nq,by go_num,by omega,by omega,by rw [HW.out]; exact adz _ _ _ _ _ _ _,by rw [← HS.out,aAv ltInt dk b k hkb' (by rw [← HG.out,← HG.out]; exact hl)]⟩
               case measure=>simp [intOf]; omega)
            | (have hl : ltInt (G k) (G (k - 1)) = true := by
                 have h:(!ltInt (G k) (G (k - 1)))=false:=by assumption
                 simpa using h
               have HK:Hid (scanSorted ltInt dk b i=k):=by
                 show scanSorted ltInt dk b i=k
                 rw [← HS.out,aqg ltInt dk b k (Or.inr (by rw [← HG.out,← HG.out]; exact hl))]
               first
                 | (with_reducible refine aMW ?_
                    have hv:Sort.partialInsertionSort ltInt d a b=(dk,false):=by
                      unfold Sort.partialInsertionSort;rw [← HO.out,aJ8 ltInt a b s i dk hs (by rw [HK.out]; omega) (by omega)]
                    rw [hv];go_ret
                    exact ⟨rfl,m + nq,by rw [HW.out]; exact adz _ _ _ _ _ _ _⟩)
                 | (with_reducible refine ahg 11 ?_
                    have h50:¬ b - a < 50:=by omega
                    go_region
                    have hsw:((wr.drewN (nq + 1)).setCell ⟨blk,off + k,none⟩ (.int .u32 (G (k - 1)))).setCell ⟨blk,off + (k - 1),none⟩ (.int .u32 (G k))=putRow (Value.int .u32) (Sort.ahead w (m + (nq + 1))) blk off (swp dk k (k - 1)):=by
                      rw [HW.out,HG.out,HG.out];exact aiW _ w m (nq + 1) blk off dk k (k - 1) (by omega) (by omega)
                    have hs1:(swp dk k (k - 1)).size=d.size:=by rw [size_swp]; exact hsk
                    go_wp2
                    all_goals first
                      | (with_reducible refine auu ?_
                         have hka:k - a ≥ 2:=by omega
                         go_loopw [9] (fun vj wr2=>∃ (j m2:Nat) (dj:Array Int),vj=.int .i64 j∧j≤k - 1∧dj.size=d.size∧wr2=putRow (Value.int .u32) (Sort.ahead w m2) blk off dj ∧
                             shiftDown ltInt j dj=shiftDown ltInt (k - 1) (swp dk k (k - 1))) (fun vj _=>(intOf vj).toNat)
                         case atStart=>exact ⟨k - 1,_,(swp dk k (k - 1)),by congr 1; omega,Nat.le_refl _,hs1,rfl,rfl⟩
                         case round =>
                           obtain ⟨j,m2,dj,rfl,hjk,hsj,hw2,hDn⟩:=hrel;obtain ⟨G,hG⟩ : ∃ G:Nat→Int,∀ t,G t=dj[t]! := ⟨fun t=>dj[t]!,fun _=>rfl⟩
                           have hcw:∀ t,t < d.size→wr.cell? ⟨blk,off + t,none⟩=some (.int .u32 (G t)):=fun t ht=>by
                             rw [hw2,hG]; exact cell?_putRow _ _ _ _ d dj (holds_ahead _ _ _ _ _ _ HH.out) hsj t (by omega)
                           have hfw:∀ t,t < d.size→wr.frozen? ⟨blk,off + t,none⟩=false:=fun t ht=>by
                             rw [hw2,frozen?_putRow]; exact ((holds_ahead _ _ m2 _ _ _ HH.out) t ht).2
                           have HW:Hid (wr=putRow (Value.int .u32) (Sort.ahead w m2) blk off dj):=hw2;have HG:Hid (∀ t,G t=dj[t]!):=hG;have HDn:Hid (shiftDown ltInt j dj=shiftDown ltInt (k - 1) (swp dk k (k - 1))):=hDn;clear hw2 hG hDn hsw
                           go_wp2
                           all_goals first
                             | (with_reducible refine ahg 16 ?_
                                go_quiet (first | (go_at_call 238; refine Calls.quiet_of_same (SoR.cmp_Less_int _ _ _)))
                                go_wp2
                                all_goals first
                                  | (with_reducible refine ahg 17 ?_
                                     have hl:ltInt (G j) (G (j - 1))=true:=by
                                       have h:(!ltInt (G j) (G (j - 1)))=false:=by assumption
                                       simpa using h
                                     go_region
                                     all_goals go_wp2
                                     go_roundw
                                     case rel =>
                                       refine ⟨j - 1,m2 + (nq + 1),swp dj j (j - 1),by congr 1; omega,by omega,by rw [size_swp]; exact hsj,?_,?_⟩
                                       · rw [HW.out,HG.out,HG.out]
                                         exact aiW _ w m2 (nq + 1) blk off dj j (j - 1) (by omega) (by omega)
                                       · rw [← HDn.out,aCz ltInt j dj (by omega) (by rw [← HG.out,← HG.out]; exact hl)]
                                     case measure=>simp [intOf]; omega)
                                  | (-- break
                                     have hl:ltInt (G j) (G (j - 1))=false:=by
                                       have h:(!ltInt (G j) (G (j - 1)))=true:=by assumption
                                       simpa using h
                                     have HD:Hid (fixDown ltInt a k (swp dk k (k - 1))=dj):=by
                                       show fixDown ltInt a k (swp dk k (k - 1))=dj
                                       unfold fixDown; rw [if_pos hka,← HDn.out,aq4 ltInt j dj (Or.inr (by rw [← HG.out,← HG.out]; exact hl))]
                                     first
                                       | (with_reducible refine akP ?_
                                          go_roundw
                                          case rel =>
                                            refine ⟨k,s + 1,_,dj,rfl,by go_num,by omega,by omega,by omega,hsj,(by first | rfl | exact HW.out | (rw [HW.out]; exact adz _ _ _ _ _ _ _)),?_⟩;rw [← HO.out,auv ltInt a b s i k dk hs HK.out (by omega) (by omega),HD.out,show fixUp ltInt b k dj=dj from by unfold fixUp; rw [if_neg (by omega)]]
                                          case measure=>simp [intOf]; omega)
                                       | (with_reducible refine auu ?_
                                          go_loopw [10] (fun vj wr2=>∃ (j m3:Nat) (du:Array Int),vj=.int .i64 j∧k + 1≤j∧j≤b∧du.size=d.size∧wr2=putRow (Value.int .u32) (Sort.ahead w m3) blk off du ∧
                                              shiftUp ltInt b j du=shiftUp ltInt b (k + 1) dj) (fun vj _=>b - (intOf vj).toNat)
                                          case atStart=>exact ⟨k + 1,_,dj,by go_num,Nat.le_refl _,by omega,hsj,(by first | rfl | exact HW.out | (rw [HW.out]; exact adz _ _ _ _ _ _ _)),rfl⟩
                                          case round =>
                                            obtain ⟨j,m3,du,rfl,hkj,hjb,hsu,hw3,hU⟩:=hrel;obtain ⟨G,hG⟩ : ∃ G:Nat→Int,∀ t,G t=du[t]! := ⟨fun t=>du[t]!,fun _=>rfl⟩
                                            have hcw:∀ t,t < d.size→wr.cell? ⟨blk,off + t,none⟩=some (.int .u32 (G t)):=fun t ht=>by
                                              rw [hw3,hG]; exact cell?_putRow _ _ _ _ d du (holds_ahead _ _ _ _ _ _ HH.out) hsu t (by omega)
                                            have hfw:∀ t,t < d.size→wr.frozen? ⟨blk,off + t,none⟩=false:=fun t ht=>by
                                              rw [hw3,frozen?_putRow]; exact ((holds_ahead _ _ m3 _ _ _ HH.out) t ht).2
                                            have HW:Hid (wr=putRow (Value.int .u32) (Sort.ahead w m3) blk off du):=hw3;have HG:Hid (∀ t,G t=du[t]!):=hG;have HU:Hid (shiftUp ltInt b j du=shiftUp ltInt b (k + 1) dj):=hU;clear hw3 hG hU
                                            go_wp2
                                            all_goals first
                                              | (with_reducible refine ahg 22 ?_
                                                 go_quiet (first | (go_at_call 238; refine Calls.quiet_of_same (SoR.cmp_Less_int _ _ _)))
                                                 go_wp2
                                                 all_goals first
                                                   | (with_reducible refine ahg 23 ?_
                                                      have hl:ltInt (G j) (G (j - 1))=true:=by
                                                        have h:(!ltInt (G j) (G (j - 1)))=false:=by assumption
                                                        simpa using h
                                                      go_region
                                                      all_goals go_wp2
                                                      go_roundw
                                                      case rel =>
                                                        refine ⟨j + 1,m3 + (nq + 1),swp du j (j - 1),by go_num,by omega,by omega,by rw [size_swp]; exact hsu,?_,?_⟩
                                                        · rw [HW.out,HG.out,HG.out]
                                                          exact aiW _ w m3 (nq + 1) blk off du j (j - 1) (by omega) (by omega)
                                                        · rw [← HU.out,atN ltInt b j du (by omega) (by rw [← HG.out,← HG.out]; exact hl)]
                                                      case measure=>simp [intOf]; omega)
                                                   | (with_reducible refine akP ?_
                                                      have hl:ltInt (G j) (G (j - 1))=false:=by
                                                        have h:(!ltInt (G j) (G (j - 1)))=true:=by assumption
                                                        simpa using h
                                                      go_roundw
                                                      case rel =>
                                                        refine ⟨k,s + 1,_,du,rfl,by go_num,by omega,by omega,by omega,hsu,(by first | rfl | exact HW.out | (rw [HW.out]; exact adz _ _ _ _ _ _ _)),?_⟩;rw [← HO.out,auv ltInt a b s i k dk hs HK.out (by omega) (by omega),HD.out,show fixUp ltInt b k dj=du from by unfold fixUp; rw [if_pos (by omega),← HU.out,ait ltInt b j du (Or.inr (by rw [← HG.out,← HG.out]; exact hl))]]
                                                      case measure=>simp [intOf]; omega))
                                              | (with_reducible refine akP ?_
                                                 go_roundw
                                                 case rel =>
                                                   refine ⟨k,s + 1,_,du,rfl,by go_num,by omega,by omega,by omega,hsu,(by first | rfl | exact HW.out | (rw [HW.out]; exact adz _ _ _ _ _ _ _)),?_⟩;rw [← HO.out,auv ltInt a b s i k dk hs HK.out (by omega) (by omega),HD.out,show fixUp ltInt b k dj=du from by unfold fixUp; rw [if_pos (by omega),← HU.out,ait ltInt b j du (Or.inl (by omega))]]
                                                 case measure=>simp [intOf]; omega))))
                             | (-- j < 1
                                have HD:Hid (fixDown ltInt a k (swp dk k (k - 1))=dj):=by
                                  show fixDown ltInt a k (swp dk k (k - 1))=dj
                                  unfold fixDown; rw [if_pos hka,← HDn.out,aq4 ltInt j dj (Or.inl (by omega))]
                                first
                                  | (with_reducible refine akP ?_
                                     go_roundw
                                     case rel =>
                                       refine ⟨k,s + 1,_,dj,rfl,by go_num,by omega,by omega,by omega,hsj,(by first | rfl | exact HW.out | (rw [HW.out]; exact adz _ _ _ _ _ _ _)),?_⟩;rw [← HO.out,auv ltInt a b s i k dk hs HK.out (by omega) (by omega),HD.out,show fixUp ltInt b k dj=dj from by unfold fixUp; rw [if_neg (by omega)]]
                                     case measure=>simp [intOf]; omega)
                                  | (with_reducible refine auu ?_
                                     go_loopw [10] (fun vj wr2=>∃ (j m3:Nat) (du:Array Int),vj=.int .i64 j∧k + 1≤j∧j≤b∧du.size=d.size∧wr2=putRow (Value.int .u32) (Sort.ahead w m3) blk off du ∧
                                         shiftUp ltInt b j du=shiftUp ltInt b (k + 1) dj) (fun vj _=>b - (intOf vj).toNat)
                                     case atStart=>exact ⟨k + 1,_,dj,by go_num,Nat.le_refl _,by omega,hsj,(by first | rfl | exact HW.out | (rw [HW.out]; exact adz _ _ _ _ _ _ _)),rfl⟩
                                     case round =>
                                       obtain ⟨j,m3,du,rfl,hkj,hjb,hsu,hw3,hU⟩:=hrel;obtain ⟨G,hG⟩ : ∃ G:Nat→Int,∀ t,G t=du[t]! := ⟨fun t=>du[t]!,fun _=>rfl⟩
                                       have hcw:∀ t,t < d.size→wr.cell? ⟨blk,off + t,none⟩=some (.int .u32 (G t)):=fun t ht=>by
                                         rw [hw3,hG]; exact cell?_putRow _ _ _ _ d du (holds_ahead _ _ _ _ _ _ HH.out) hsu t (by omega)
                                       have hfw:∀ t,t < d.size→wr.frozen? ⟨blk,off + t,none⟩=false:=fun t ht=>by
                                         rw [hw3,frozen?_putRow]; exact ((holds_ahead _ _ m3 _ _ _ HH.out) t ht).2
                                       have HW:Hid (wr=putRow (Value.int .u32) (Sort.ahead w m3) blk off du):=hw3;have HG:Hid (∀ t,G t=du[t]!):=hG;have HU:Hid (shiftUp ltInt b j du=shiftUp ltInt b (k + 1) dj):=hU;clear hw3 hG hU
                                       go_wp2
                                       all_goals first
                                         | (with_reducible refine ahg 22 ?_
                                            go_quiet (first | (go_at_call 238; refine Calls.quiet_of_same (SoR.cmp_Less_int _ _ _)))
                                            go_wp2
                                            all_goals first
                                              | (with_reducible refine ahg 23 ?_
                                                 have hl:ltInt (G j) (G (j - 1))=true:=by
                                                   have h:(!ltInt (G j) (G (j - 1)))=false:=by assumption
                                                   simpa using h
                                                 go_region
                                                 all_goals go_wp2
                                                 go_roundw
                                                 case rel =>
                                                   refine ⟨j + 1,m3 + (nq + 1),swp du j (j - 1),by go_num,by omega,by omega,by rw [size_swp]; exact hsu,?_,?_⟩
                                                   · rw [HW.out,HG.out,HG.out]
                                                     exact aiW _ w m3 (nq + 1) blk off du j (j - 1) (by omega) (by omega)
                                                   · rw [← HU.out,atN ltInt b j du (by omega) (by rw [← HG.out,← HG.out]; exact hl)]
                                                 case measure=>simp [intOf]; omega)
                                              | (with_reducible refine akP ?_
                                                 have hl:ltInt (G j) (G (j - 1))=false:=by
                                                   have h:(!ltInt (G j) (G (j - 1)))=true:=by assumption
                                                   simpa using h
                                                 go_roundw
                                                 case rel =>
                                                   refine ⟨k,s + 1,_,du,rfl,by go_num,by omega,by omega,by omega,hsu,(by first | rfl | exact HW.out | (rw [HW.out]; exact adz _ _ _ _ _ _ _)),?_⟩;rw [← HO.out,auv ltInt a b s i k dk hs HK.out (by omega) (by omega),HD.out,show fixUp ltInt b k dj=du from by unfold fixUp; rw [if_pos (by omega),← HU.out,ait ltInt b j du (Or.inr (by rw [← HG.out,← HG.out]; exact hl))]]
                                                 case measure=>simp [intOf]; omega))
                                         | (with_reducible refine akP ?_
                                            go_roundw
                                            case rel =>
                                              refine ⟨k,s + 1,_,du,rfl,by go_num,by omega,by omega,by omega,hsu,(by first | rfl | exact HW.out | (rw [HW.out]; exact adz _ _ _ _ _ _ _)),?_⟩;rw [← HO.out,auv ltInt a b s i k dk hs HK.out (by omega) (by omega),HD.out,show fixUp ltInt b k dj=du from by unfold fixUp; rw [if_pos (by omega),← HU.out,ait ltInt b j du (Or.inl (by omega))]]
                                            case measure=>simp [intOf]; omega))))
                      | (-- i - a < 2
                         have HD:Hid (fixDown ltInt a k (swp dk k (k - 1))=(swp dk k (k - 1))):=by
                           show fixDown ltInt a k (swp dk k (k - 1))=(swp dk k (k - 1))
                           unfold fixDown; rw [if_neg (by omega)]
                         first
                           | (with_reducible refine akP ?_
                              go_roundw
                              case rel =>
                                refine ⟨k,s + 1,_,(swp dk k (k - 1)),rfl,by go_num,by omega,by omega,by omega,hs1,(by first | rfl | exact HW.out | (rw [HW.out]; exact adz _ _ _ _ _ _ _)),?_⟩;rw [← HO.out,auv ltInt a b s i k dk hs HK.out (by omega) (by omega),HD.out,show fixUp ltInt b k (swp dk k (k - 1))=(swp dk k (k - 1)) from by unfold fixUp; rw [if_neg (by omega)]]
                              case measure=>simp [intOf]; omega)
                           | (with_reducible refine auu ?_
                              go_loopw [10] (fun vj wr2=>∃ (j m3:Nat) (du:Array Int),vj=.int .i64 j∧k + 1≤j∧j≤b∧du.size=d.size∧wr2=putRow (Value.int .u32) (Sort.ahead w m3) blk off du ∧
                                  shiftUp ltInt b j du=shiftUp ltInt b (k + 1) (swp dk k (k - 1))) (fun vj _=>b - (intOf vj).toNat)
                              case atStart=>exact ⟨k + 1,_,(swp dk k (k - 1)),by go_num,Nat.le_refl _,by omega,hs1,(by first | rfl | exact HW.out | (rw [HW.out]; exact adz _ _ _ _ _ _ _)),rfl⟩
                              case round =>
                                obtain ⟨j,m3,du,rfl,hkj,hjb,hsu,hw3,hU⟩:=hrel;obtain ⟨G,hG⟩ : ∃ G:Nat→Int,∀ t,G t=du[t]! := ⟨fun t=>du[t]!,fun _=>rfl⟩
                                have hcw:∀ t,t < d.size→wr.cell? ⟨blk,off + t,none⟩=some (.int .u32 (G t)):=fun t ht=>by
                                  rw [hw3,hG]; exact cell?_putRow _ _ _ _ d du (holds_ahead _ _ _ _ _ _ HH.out) hsu t (by omega)
                                have hfw:∀ t,t < d.size→wr.frozen? ⟨blk,off + t,none⟩=false:=fun t ht=>by
                                  rw [hw3,frozen?_putRow]; exact ((holds_ahead _ _ m3 _ _ _ HH.out) t ht).2
                                have HW:Hid (wr=putRow (Value.int .u32) (Sort.ahead w m3) blk off du):=hw3;have HG:Hid (∀ t,G t=du[t]!):=hG;have HU:Hid (shiftUp ltInt b j du=shiftUp ltInt b (k + 1) (swp dk k (k - 1))):=hU;clear hw3 hG hU
                                go_wp2
                                all_goals first
                                  | (with_reducible refine ahg 22 ?_
                                     go_quiet (first | (go_at_call 238; refine Calls.quiet_of_same (SoR.cmp_Less_int _ _ _)))
                                     go_wp2
                                     all_goals first
                                       | (with_reducible refine ahg 23 ?_
                                          have hl:ltInt (G j) (G (j - 1))=true:=by
                                            have h:(!ltInt (G j) (G (j - 1)))=false:=by assumption
                                            simpa using h
                                          go_region
                                          all_goals go_wp2
                                          go_roundw
                                          case rel =>
                                            refine ⟨j + 1,m3 + (nq + 1),swp du j (j - 1),by go_num,by omega,by omega,by rw [size_swp]; exact hsu,?_,?_⟩
                                            · rw [HW.out,HG.out,HG.out]
                                              exact aiW _ w m3 (nq + 1) blk off du j (j - 1) (by omega) (by omega)
                                            · rw [← HU.out,atN ltInt b j du (by omega) (by rw [← HG.out,← HG.out]; exact hl)]
                                          case measure=>simp [intOf]; omega)
                                       | (with_reducible refine akP ?_
                                          have hl:ltInt (G j) (G (j - 1))=false:=by
                                            have h:(!ltInt (G j) (G (j - 1)))=true:=by assumption
                                            simpa using h
                                          go_roundw
                                          case rel =>
                                            refine ⟨k,s + 1,_,du,rfl,by go_num,by omega,by omega,by omega,hsu,(by first | rfl | exact HW.out | (rw [HW.out]; exact adz _ _ _ _ _ _ _)),?_⟩;rw [← HO.out,auv ltInt a b s i k dk hs HK.out (by omega) (by omega),HD.out,show fixUp ltInt b k (swp dk k (k - 1))=du from by unfold fixUp; rw [if_pos (by omega),← HU.out,ait ltInt b j du (Or.inr (by rw [← HG.out,← HG.out]; exact hl))]]
                                          case measure=>simp [intOf]; omega))
                                  | (with_reducible refine akP ?_
                                     go_roundw
                                     case rel =>
                                       refine ⟨k,s + 1,_,du,rfl,by go_num,by omega,by omega,by omega,hsu,(by first | rfl | exact HW.out | (rw [HW.out]; exact adz _ _ _ _ _ _ _)),?_⟩;rw [← HO.out,auv ltInt a b s i k dk hs HK.out (by omega) (by omega),HD.out,show fixUp ltInt b k (swp dk k (k - 1))=du from by unfold fixUp; rw [if_pos (by omega),← HU.out,ait ltInt b j du (Or.inl (by omega))]]
                                     case measure=>simp [intOf]; omega)))))
        · -- the scan has come to b: true
          go_quiet (first | (go_at_call 238; refine Calls.quiet_of_same (SoR.cmp_Less_int _ _ _)))
          go_wp2
          obtain rfl:k=b:=by omega
          have hv:Sort.partialInsertionSort ltInt d a k=(dk,true):=by
            unfold Sort.partialInsertionSort;rw [← HO.out,aMX ltInt a k s i dk hs (by rw [← HS.out,aqg ltInt dk k k (Or.inl (by omega))])]
          rw [hv];go_ret;exact ⟨rfl,m + nq,by rw [HW.out]; exact adz _ _ _ _ _ _ _⟩
    · -- five steps are done: false
      obtain rfl:s=5:=by omega
      have hv:Sort.partialInsertionSort ltInt d a b=(dk,false):=by
        unfold Sort.partialInsertionSort;rw [← HO.out,aPH]
      rw [hv];go_ret;exact ⟨rfl,n,rfl⟩
end Go.Proofs.YtdackeldhdchaaaGreat.Srt
namespace Go.Proofs.YtdackeldhdchaaaGreat.Srt
open Go.RowKit Go.Sort
theorem axo (w:World) (blk off:Nat) (v v':Value):(w.setCell ⟨blk,off,none⟩ v).setCell ⟨blk,off,none⟩ v'=w.setCell ⟨blk,off,none⟩ v':=by
 rw [setCell_eq,setCell_eq,mapBlock_mapBlock,setCell_eq]
 congr 1
 funext c
 simp
theorem SoR.xorshift_Next (rb ro X:Nat) (hX:X<18446744073709551616) (w:World) (hc:w.cell? ⟨rb,ro,none⟩=some (.int .u64 X)) (hf:w.frozen? ⟨rb,ro,none⟩=false) :
  Calls Tryz.prog 245 #[.pointer (some ⟨rb,ro,none⟩)] w fun e w'=>e=.returned (.int .u64 (xorNextN X:Nat))/\w'=(w.setCell ⟨rb,ro,none⟩ (.int .u64 (xorNextN X:Nat))).drewN 3:=by
 obtain ⟨A,hA⟩ : ∃ A:Nat,A=X ^^^ (X*8192 % 18446744073709551616):=⟨_,rfl⟩;obtain ⟨B,hB⟩ : ∃ B:Nat,B=A ^^^ (A/128):=⟨_,rfl⟩;obtain ⟨C,hC⟩ : ∃ C:Nat,C=B ^^^ (B*131072 % 18446744073709551616):=⟨_,rfl⟩
 have lA:A<18446744073709551616:=by rw [hA];exact Nat.xor_lt_two_pow (n:=64) (by omega) (by omega)
 have lB:B<18446744073709551616:=by rw [hB];exact Nat.xor_lt_two_pow (n:=64) (by omega) (by omega)
 have e1:bits .xor .u64 (X:Int) (IntKind.u64.wrap ((X:Int)*8192))=(A:Int):=by
  rw [IntKind.wrap_u64,show ((X:Int)*8192 % 18446744073709551616)=((X*8192 % 18446744073709551616:Nat):Int) by omega,bits_xor_u64_nat _ _ hX (by omega),hA]
 have e2:bits .xor .u64 (A:Int) ((A:Int)/128)=(B:Int):=by
  rw [show ((A:Int)/128)=((A/128:Nat):Int) by omega,bits_xor_u64_nat _ _ lA (by omega),hB]
 have e3:bits .xor .u64 (B:Int) (IntKind.u64.wrap ((B:Int)*131072))=(C:Int):=by
  rw [IntKind.wrap_u64,show ((B:Int)*131072 % 18446744073709551616)=((B*131072 % 18446744073709551616:Nat):Int) by omega,bits_xor_u64_nat _ _ lB (by omega),hC]
 have hv:xorNextN X=C:=by unfold xorNextN;simp only [];rw [<- hA,<- hB,<- hC]
 rw [hv];clear hA hB hC hv;have hss:∀ v v',(w.setCell ⟨rb,ro,none⟩ v).setCell ⟨rb,ro,none⟩ v'=w.setCell ⟨rb,ro,none⟩ v':=axo w rb ro
 go_enter Tryz.func245,Tryz.ntmps245
 go_wp2
 go_region
 all_goals go_wp2
 all_goals go_region
 all_goals go_wp2
 all_goals go_region
 all_goals go_wp2
 go_ret;exact ⟨rfl,rfl⟩
theorem aCA (k:Nat) (hk:k<=62):IntKind.u64.wrap ((2:Int) ^ k)=((1 <<< k:Nat):Int):=by
 have h:(2:Nat) ^ k<=2 ^ 62:=Nat.pow_le_pow_right (by decide) hk;rw [IntKind.wrap_u64,Nat.one_shiftLeft,show ((2:Int) ^ k)=((2 ^ k:Nat):Int) by push_cast;rfl];generalize (2:Nat) ^ k=p at h;omega
theorem SoR.nextPowerOfTwo (n:Nat) (hn:n<4611686018427387904) (w:World) :
  Calls Tryz.prog 244 #[.int .i64 n] w fun e w'=>e=.returned (.int .u64 ((1 <<< bitsLen n:Nat):Int))/\w'=w:=by
 have aPF:∀ w,Calls Tryz.prog 231 #[.int .u64 (n:Int)] w fun e w'=>e=.returned (.int .i64 (bitsLen n:Nat))/\w'=w:=fun w=>by
  have h:=SoR.bits_Len (n:Int) w (by omega) (by omega)
  rwa [Int.toNat_natCast,aBt _ (by omega)] at h
 have hk:bitsLen n<=62:=(bitsLen_le_iff n 62).2 (by omega);have hp:=aCA (bitsLen n) hk
 go_enter Tryz.func244,Tryz.ntmps244
 go_wp2_with (first | (go_at_call 231;refine (aPF _).mono ?_;rintro e w' ⟨rfl,rfl⟩))
 go_ret;exact ⟨rfl,rfl⟩
section
variable {α : Type} [Inhabited α]
def apr (a L M i0:Nat):Nat->Nat->UInt64 × Array α->Array α
 | 0,_,st=>st.2
 | k+1,t,st=>apr a L M i0 k (t+1) (breakStep a L M st (i0+t))
theorem avN (d:Array α) (a L:Nat) (h8:8<=L):breakPatterns d a (a+L)=apr a L (1 <<< bitsLen L) (a+L/4*2-1) 3 0 (UInt64.ofNat L,d):=by
 unfold breakPatterns
 simp only [Nat.add_sub_cancel_left]
 rw [if_pos h8];rfl
theorem aGM (a L M i0 t:Nat) (r:UInt64) (d:Array α) (o:Nat) (ht:t<3) (ho:(if (xorNext r).toNat &&& (M-1) ≥ L then ((xorNext r).toNat &&& (M-1))-L else (xorNext r).toNat &&& (M-1))=o) :
  apr a L M i0 (3-t) t (r,d)=apr a L M i0 (3-(t+1)) (t+1) (xorNext r,swp d (i0+t) (a+o)):=by
 rw [show 3-t=(3-(t+1))+1 by omega,apr];unfold breakStep
 simp only [ho]
theorem aAy (X:World) (v:Value) (T:TypeId):(grow X #[Obj.cells #[v] T]).cell? ⟨X.heap.size,0,none⟩=some v:=by
 rw [<- alloc_eq_grow,World.cell?_alloc_at _ _ _ _ rfl];rfl
theorem axp (X:World) (v:Value) (T:TypeId):(grow X #[Obj.cells #[v] T]).frozen? ⟨X.heap.size,0,none⟩=false:=by
 rw [<- alloc_eq_grow,World.frozen?_alloc_at _ _ _ _ rfl]
theorem auy (X:World) (os:Array Obj) (blk off:Nat) (v:Value) (h:blk<X.heap.size):(grow X os).setCell ⟨blk,off,none⟩ v=grow (X.setCell ⟨blk,off,none⟩ v) os:=by
 rw [setCell_eq,setCell_eq,mapBlock_grow _ _ _ _ h]
theorem avR (X:World) (u v:Value) (T:TypeId):(grow X #[Obj.cells #[u] T]).setCell ⟨X.heap.size,0,none⟩ v=grow X #[Obj.cells #[v] T]:=by
 rw [setCell_eq,mapBlock_grow_new _ _ _ _ (Nat.le_refl _)]
 simp [onCells]
theorem ayY (enc:α->Value) (w:World) (n q blk off:Nat) (d:Array α) (j k:Nat) (ais:blk<w.heap.size) (hj:j<d.size) (hk:k<d.size) (u v:Value) (T:TypeId) :
  ((((grow (putRow enc (Sort.ahead w n) blk off d) #[Obj.cells #[u] T]).setCell ⟨w.heap.size,0,none⟩ v).drewN q).setCell ⟨blk,off+j,none⟩ (enc d[k]!)).setCell ⟨blk,off+k,none⟩ (enc d[j]!) =
   grow (putRow enc (Sort.ahead w (n+q)) blk off (swp d j k)) #[Obj.cells #[v] T]:=by
 have hz:(putRow enc (Sort.ahead w n) blk off d).heap.size=w.heap.size:=by simp
 rw [<- hz,avR,show (grow (putRow enc (Sort.ahead w n) blk off d) #[Obj.cells #[v] T]).drewN q=grow ((putRow enc (Sort.ahead w n) blk off d).drewN q) #[Obj.cells #[v] T] from rfl,adz,
  auy _ _ _ _ _ (by simpa using ais),auy _ _ _ _ _ (by simpa using ais),putRow_swp enc _ blk off d j k hj hk]
end
theorem SoR.breakPatterns_int_go (blk off cap a L:Nat) (d:Array Int) (w:World) (hH:Holds (Value.int .u32) w blk off d) (ais:blk<w.heap.size) (hb:a+L<=d.size) (hsz:d.size<4611686018427387904) (h8:8<=L) :
  Calls Tryz.prog 234 #[.slice (some ⟨blk,off,none⟩) d.size cap,.int .i64 a,.int .i64 ((a+L:Nat):Int)] w fun e w' =>
   e=.returned (.tuple #[])/\∃ n os,w'=grow (putRow (Value.int .u32) (Sort.ahead w n) blk off (breakPatterns d a (a+L))) os:=by
 rw [avN d a L h8];obtain ⟨M,hM⟩ : ∃ M:Nat,M=1 <<< bitsLen L:=⟨_,rfl⟩
 have hM1:1<=M:=by rw [hM,Nat.one_shiftLeft];exact Nat.two_pow_pos _
 have hM2:M<=2*L:=by rw [hM,Nat.one_shiftLeft];exact two_pow_bitsLen_le (by omega)
 have hNP:∀ w,Calls Tryz.prog 244 #[.int .i64 (L:Int)] w fun e w'=>e=.returned (.int .u64 (M:Int))/\w'=w:=by rw [hM];exact fun w=>SoR.nextPowerOfTwo L (by omega) w
 rw [<- hM];clear hM;have HH:Hid (Holds (Value.int .u32) w blk off d):=hH
 have HST:Hid (w.alloc (Obj.cells #[.int .u64 (L:Int)] 321)=grow (putRow (Value.int .u32) (Sort.ahead w 0) blk off d) #[Obj.cells #[.int .u64 ((UInt64.ofNat L).toNat:Int)] 321]):=by
  show _=_
  rw [show Sort.ahead w 0=w from rfl,putRow_self _ _ _ _ _ hH,alloc_eq_grow,show (UInt64.ofNat L).toNat=L from by simp;omega]
 clear hH
 go_enter Tryz.func234,Tryz.ntmps234
 go_wp2_with (first | (go_at_call 244;rw [show ((a:Int)+(L:Int)-(a:Int))=(L:Int) by omega];refine (hNP _).mono ?_;rintro e w' ⟨rfl,rfl⟩))
 go_loopw [9] (fun vi wr=>∃ (t n:Nat) (r:UInt64) (dk:Array Int),vi=.int .i64 ((a+L/4*2-1+t:Nat):Int)/\t<=3/\dk.size=d.size /\
   wr=grow (putRow (Value.int .u32) (Sort.ahead w n) blk off dk) #[Obj.cells #[.int .u64 (r.toNat:Int)] 321] /\
   apr a L M (a+L/4*2-1) (3-t) t (r,dk)=apr a L M (a+L/4*2-1) 3 0 (UInt64.ofNat L,d)) (fun vi _=>a+L/4*2+3-(intOf vi).toNat)
 case atStart=>exact ⟨0,0,UInt64.ofNat L,d,by congr 1;omega,by omega,rfl,HST.out,rfl⟩
 case round =>
  obtain ⟨t,n,r,dk,rfl,ht,hsk,hw,hR⟩:=hrel;obtain ⟨R,hRr⟩ : ∃ R:Nat,R=r.toNat:=⟨_,rfl⟩
  have lR:R<18446744073709551616:=by rw [hRr];exact r.toNat_lt
  obtain ⟨R',hR'⟩ : ∃ R':Nat,R'=xorNextN R:=⟨_,rfl⟩
  have lR':R'<18446744073709551616:=by rw [hR'];exact xorNextN_lt R lR
  obtain ⟨O,hO⟩ : ∃ O:Nat,O=R' &&& (M-1):=⟨_,rfl⟩
  have lO:O<=M-1:=by rw [hO];exact Nat.and_le_right
  have a2f:bits .and .u64 (R':Int) ((M:Int)-1)=(O:Int):=by
   rw [show ((M:Int)-1)=((M-1:Nat):Int) by omega,bits_and_u64_nat _ _ lR' (by omega),hO]
  obtain ⟨G,hG⟩ : ∃ G:Nat->Int,∀ x,G x=dk[x]! := ⟨fun x=>dk[x]!,fun _=>rfl⟩
  have hz:(putRow (Value.int .u32) (Sort.ahead w n) blk off dk).heap.size=w.heap.size:=by simp
  have hcw:∀ x,x<d.size->wr.cell? ⟨blk,off+x,none⟩=some (.int .u32 (G x)):=fun x hx=>by
   rw [hw,cell?_grow _ _ _ (by rw [hz];exact ais),hG];exact cell?_putRow _ _ _ _ d dk (holds_ahead _ _ _ _ _ _ HH.out) hsk x (by omega)
  have hfw:∀ x,x<d.size->wr.frozen? ⟨blk,off+x,none⟩=false:=fun x hx=>by
   rw [hw,frozen?_grow _ _ _ (by rw [hz];exact ais),frozen?_putRow];exact ((holds_ahead _ _ n _ _ _ HH.out) x hx).2
  have hcB:wr.cell? ⟨w.heap.size,0,none⟩=some (.int .u64 (R:Int)):=by rw [hw,hRr,<- hz];exact aAy _ _ _
  have hfB:wr.frozen? ⟨w.heap.size,0,none⟩=false:=by rw [hw,<- hz];exact axp _ _ _
  have aSs:Calls Tryz.prog 245 #[.pointer (some ⟨w.heap.size,0,none⟩)] wr fun e w'=>e=.returned (.int .u64 (R':Int))/\w'=(wr.setCell ⟨w.heap.size,0,none⟩ (.int .u64 (R':Int))).drewN 3:=by
   rw [hR'];exact SoR.xorshift_Next _ _ R lR wr hcB hfB
  have HW:Hid (wr=grow (putRow (Value.int .u32) (Sort.ahead w n) blk off dk) #[Obj.cells #[.int .u64 (r.toNat:Int)] 321]):=hw;have HG:Hid (∀ x,G x=dk[x]!):=hG;have HR:Hid (apr a L M (a+L/4*2-1) (3-t) t (r,dk)=apr a L M (a+L/4*2-1) 3 0 (UInt64.ofNat L,d)):=hR
  have HN:Hid (R'=(xorNext r).toNat/\O=(xorNext r).toNat &&& (M-1)):=by
   have e:R'=(xorNext r).toNat:=by rw [hR',hRr,xorNext_toNat]
   exact ⟨e,by rw [hO,e]⟩
  clear hw hG hR hRr hR' hO
  go_wp2_with (first | (go_at_call 245;refine aSs.mono ?_;rintro e w' ⟨rfl,rfl⟩))
  ·-- other >= length: other -= length
   have hLO:L<=O:=by omega
   by_cases hEq:a+L/4*2-1+t=a+(O-L)
   all_goals
    go_region
    all_goals go_wp2
    go_roundw
    case rel =>
     refine ⟨t+1,n+4,xorNext r,swp dk (a+L/4*2-1+t) (a+(O-L)),by first | rfl | (congr 1 <;> omega),by omega,by rw [size_swp];exact hsk,?_,?_⟩
     ·(try rw [hEq])      -- (where the two places are one,the walk has written the one for the other)
      rw [HW.out,HN.out.1]
      simp only [HG.out]
      exact ayY (Value.int .u32) w n 4 blk off dk _ _ ais (by omega) (by omega) _ _ _
     ·rw [<- HR.out,aGM a L M _ t r dk (O-L) (by omega) (by rw [<- HN.out.2,if_pos (by omega)])]
    case measure=>simp [intOf];omega
  ·have hLO:¬ L<=O:=by omega
   by_cases hEq:a+L/4*2-1+t=a+O
   all_goals
    go_region
    all_goals go_wp2
    go_roundw
    case rel =>
     refine ⟨t+1,n+4,xorNext r,swp dk (a+L/4*2-1+t) (a+O),by first | rfl | (congr 1 <;> omega),by omega,by rw [size_swp];exact hsk,?_,?_⟩
     ·(try rw [hEq])      -- (where the two places are one,the walk has written the one for the other)
      rw [HW.out,HN.out.1]
      simp only [HG.out]
      exact ayY (Value.int .u32) w n 4 blk off dk _ _ ais (by omega) (by omega) _ _ _
     ·rw [<- HR.out,aGM a L M _ t r dk O (by omega) (by rw [<- HN.out.2,if_neg (by omega)])]
    case measure=>simp [intOf];omega
  ·-- three rounds are done
   obtain rfl:t=3:=by omega
   go_end0;exact ⟨rfl,n,_,by rw [<- HR.out,HW.out];rfl⟩
theorem SoR.breakPatterns_int (blk off cap a b:Nat) (d:Array Int) (w:World) (hH:Holds (Value.int .u32) w blk off d) (ais:blk<w.heap.size) (hab:a<=b) (hb:b<=d.size) (hsz:d.size<4611686018427387904) :
  Calls Tryz.prog 234 #[.slice (some ⟨blk,off,none⟩) d.size cap,.int .i64 a,.int .i64 b] w fun e w' =>
   e=.returned (.tuple #[])/\∃ n os,w'=grow (putRow (Value.int .u32) (Sort.ahead w n) blk off (breakPatterns d a b)) os:=by
 obtain ⟨L,rfl⟩ : ∃ L,b=a+L:=⟨b-a,by omega⟩
 by_cases h8:8<=L
 ·exact SoR.breakPatterns_int_go blk off cap a L d w hH ais hb hsz h8
 ·have hv:breakPatterns d a (a+L)=d:=by unfold breakPatterns;simp only [Nat.add_sub_cancel_left];rw [if_neg h8]
  rw [hv]
  have HST:Hid (w=grow (putRow (Value.int .u32) (Sort.ahead w 0) blk off d) #[]):=by
   show _=_
   rw [grow_empty,show Sort.ahead w 0=w from rfl,putRow_self _ _ _ _ _ hH]
  clear hH
  go_enter Tryz.func234,Tryz.ntmps234
  go_wp2
  go_end0;exact ⟨rfl,0,#[],HST.out⟩
end Go.Proofs.YtdackeldhdchaaaGreat.Srt
namespace Go.Proofs.YtdackeldhdchaaaGreat.Srt
open Go.Sort Go.RowKit
abbrev one (s:Nat):Array Int:=#[(s:Int)]
theorem aDP {w:World} {sb so s:Nat} (h:Holds (Value.int .i64) w sb so (one s)):w.cell? ⟨sb,so,none⟩=some (.int .i64 s)/\w.frozen? ⟨sb,so,none⟩=false:=by simpa using h 0 (by simp)
theorem aMY {w:World} {sb so s:Nat} (h:Holds (Value.int .i64) w sb so (one s)) (t:Nat):w.setCell ⟨sb,so,none⟩ (.int .i64 t)=putRow (Value.int .i64) w sb so (one t):=by
 have:=putRow_set (Value.int .i64) w sb so (one s) 0 (t:Int) (by simp);rw [putRow_self _ _ _ _ _ h] at this
 simpa using this
theorem alf {w:World} {blk off sb so n t:Nat} {d:Array Int} (h:Holds (Value.int .u32) w blk off d) (hne:sb≠blk):Holds (Value.int .u32) (putRow (Value.int .i64) (Sort.ahead w n) sb so (one t)) blk off d:=fun j hj =>
 ⟨by rw [cell?_putRow_other _ _ _ _ _ _ (Or.inl (Ne.symm hne))];exact (h j hj).1,by rw [frozen?_putRow];exact (h j hj).2⟩
theorem axT (w:World) (n m sb so s t:Nat):putRow (Value.int .i64) (Sort.ahead (putRow (Value.int .i64) (Sort.ahead w n) sb so (one s)) m) sb so (one t)=putRow (Value.int .i64) (Sort.ahead w (n+m)) sb so (one t) :=
 putRow_ahead_putRow _ _ _ _ _ _ _ _ rfl
theorem SoR.order2_int (d:Array Int) (len:Nat) (hlen:d.size=len) (blk off cap a b sb so s:Nat) (w:World) (hH:Holds (Value.int .u32) w blk off d) (ha:a < d.size) (hb:b < d.size)
    (hS:Holds (Value.int .i64) w sb so (one s)) (hs:s < 2 ^ 62) :
    Calls Tryz.prog 249 #[.slice (some ⟨blk,off,none⟩) len cap,.int .i64 a,.int .i64 b,.pointer (some ⟨sb,so,none⟩)] w fun e w' =>
      e=.returned (.tuple #[.int .i64 (order2 ltInt d a b s).1,.int .i64 (order2 ltInt d a b s).2.1])∧∃ n,w'=putRow (Value.int .i64) (Sort.ahead w n) sb so (one (order2 ltInt d a b s).2.2):=by
  subst hlen
  replace hs:s < 4611686018427387904:=by omega
  have ca:=(hH a ha).1;have cb:=(hH b hb).1;obtain ⟨cs,fs⟩:=aDP hS;have ea:d[a]! = d[a]:=getElem!_pos d a ha;have eb:d[b]! = d[b]:=getElem!_pos d b hb
  go_enter Tryz.func249,Tryz.ntmps249
  go_wp2
  go_region_with (go_at_call 238; refine (SoR.cmp_Less_int _ _ _).mono ?_; rintro e w' ⟨rfl,rfl⟩)
  all_goals (try go_wp2)
  all_goals first
    | (have hlt:ltInt d[b] d[a]=true:=by assumption
       have e2:order2 ltInt d a b s=(b,a,s + 1):=by simp [order2,ea,eb,hlt]
       go_ret2;rw [e2];refine ⟨rfl,1,?_⟩;rw [putRow_ahead,← aMY hS (s + 1)]
       simp [drew_eq_ahead])
    | (have hlt:ltInt d[b] d[a]=false:=by assumption
       have e2:order2 ltInt d a b s=(a,b,s):=by simp [order2,ea,eb,hlt]
       go_ret2;rw [e2];refine ⟨rfl,1,?_⟩;rw [putRow_ahead,putRow_self _ _ _ _ _ hS]
       rfl)
theorem aBE (d:Array Int) {a b n:Nat} (s:Nat) (ha:a<n) (hb:b<n):(order2 ltInt d a b s).1<n/\(order2 ltInt d a b s).2.1<n:=by
 have:=order2_mem ltInt d a b s;omega
theorem auz (d:Array Int) (a b s:Nat):(order2 ltInt d a b s).2.2<=s+1:=by
 unfold order2
 split <;> simp
theorem amj {w:World} {sb so s n t:Nat} (h:Holds (Value.int .i64) w sb so (one s)):Holds (Value.int .i64) (putRow (Value.int .i64) (Sort.ahead w n) sb so (one t)) sb so (one t) :=
 holds_putRow _ _ _ _ (one s) (one t) (holds_ahead _ _ _ _ _ _ h) rfl
theorem SoR.median_int (d:Array Int) (len:Nat) (hlen:d.size=len) (blk off cap a b c sb so s:Nat) (w:World) (hH:Holds (Value.int .u32) w blk off d) (ha:a<d.size) (hb:b<d.size) (hc:c<d.size) (hne:sb≠blk)
  (hS:Holds (Value.int .i64) w sb so (one s)) (hs:s+3<2 ^ 62) :
  Calls Tryz.prog 247 #[.slice (some ⟨blk,off,none⟩) len cap,.int .i64 a,.int .i64 b,.int .i64 c,.pointer (some ⟨sb,so,none⟩)] w fun e w' =>
   e=.returned (.int .i64 (median ltInt d a b c s).1)/\∃ n,w'=putRow (Value.int .i64) (Sort.ahead w n) sb so (one (median ltInt d a b c s).2):=by
 subst hlen;have l1:=aBE d s ha hb;have s1:=auz d a b s;have l2:=aBE d (order2 ltInt d a b s).2.2 l1.2 hc;have s2:=auz d (order2 ltInt d a b s).2.1 c (order2 ltInt d a b s).2.2
 go_enter Tryz.func247,Tryz.ntmps247
 go_wp2_with (go_at_call_of 249 (Value.int .i64 (b:Int));refine (SoR.order2_int d _ rfl blk off cap a b sb so s w hH ha hb hS (by omega)).mono ?_;rintro e w' ⟨rfl,n1,rfl⟩)
 go_wp2_with (go_at_call_of 249 (Value.int .i64 (c:Int));refine (SoR.order2_int d _ rfl blk off cap (order2 ltInt d a b s).2.1 c sb so (order2 ltInt d a b s).2.2 _ (alf hH hne) l1.2 hc (amj hS) (by omega)).mono ?_;rintro e w' ⟨rfl,n2,rfl⟩)
 go_wp2_with (go_at_call_of 249 (Value.int .i64 ((order2 ltInt d a b s).1:Int));refine (SoR.order2_int d _ rfl blk off cap (order2 ltInt d a b s).1 (order2 ltInt d (order2 ltInt d a b s).2.1 c (order2 ltInt d a b s).2.2).1 sb so (order2 ltInt d (order2 ltInt d a b s).2.1 c (order2 ltInt d a b s).2.2).2.2 _
  (alf (alf hH hne) hne) l1.1 l2.1 (amj (amj hS)) (by omega)).mono ?_;rintro e w' ⟨rfl,n3,rfl⟩)
 go_ret;refine ⟨rfl,n1+(n2+n3),?_⟩;rw [axT,axT];rfl
theorem SoR.medianAdjacent_int (d:Array Int) (len:Nat) (hlen:d.size=len) (blk off cap a sb so s:Nat) (w:World) (hH:Holds (Value.int .u32) w blk off d) (ha0:1<=a) (ha:a+1<d.size) (hsz:d.size<2 ^ 62) (hne:sb≠blk)
  (hS:Holds (Value.int .i64) w sb so (one s)) (hs:s+3<2 ^ 62) :
  Calls Tryz.prog 246 #[.slice (some ⟨blk,off,none⟩) len cap,.int .i64 a,.pointer (some ⟨sb,so,none⟩)] w fun e w' =>
   e=.returned (.int .i64 (medianAdjacent ltInt d a s).1)/\∃ n,w'=putRow (Value.int .i64) (Sort.ahead w n) sb so (one (medianAdjacent ltInt d a s).2):=by
 subst hlen
 replace hsz:d.size<4611686018427387904:=by omega
 go_enter Tryz.func246,Tryz.ntmps246
 go_wp2_with (go_at_call 247;rw [show ((a:Int)-1)=((a-1:Nat):Int) by omega,show ((a:Int)+1)=((a+1:Nat):Int) by omega];refine (SoR.median_int d _ rfl blk off cap (a-1) a (a+1) sb so s w hH (by omega) (by omega) ha hne hS hs).mono ?_;rintro e w' ⟨rfl,n1,rfl⟩)
 go_ret;exact ⟨rfl,n1,rfl⟩
end Go.Proofs.YtdackeldhdchaaaGreat.Srt
