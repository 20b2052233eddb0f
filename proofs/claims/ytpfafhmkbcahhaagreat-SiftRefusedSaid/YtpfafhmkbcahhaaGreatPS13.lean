import Derived.Test.YtpfafhmkbcahhaaGreatPS1
import Derived.Test.YtpfafhmkbcahhaaGreatPS12
import Derived.Sort.LotD5
import Derived.Laws.Bits64
import Derived.Laws.Bits64b
import Derived.Sort.Row
import Derived.Sort.LotD3
import Derived.Deep.RegionWith
import Derived.WalkKit
import Derived.RowKit
import Derived.Sort.LotD4
import Derived.Sort.Grow
import Derived.Sort.AtCall
import Derived.BigGuard
import Derived.BigCall
import Derived.CellFam
import Derived.Deep.LoopGhost
import Derived.BigQuiet
namespace Go.Proofs.YtpfafhmkbcahhaaGreat.Srt
open Go.RowKit Go.Sort
theorem setCell_setCell (w:World) (blk off:Nat) (v v':Value):(w.setCell ⟨blk,off,none⟩ v).setCell ⟨blk,off,none⟩ v'=w.setCell ⟨blk,off,none⟩ v':=by
  rw [setCell_eq,setCell_eq,mapBlock_mapBlock,setCell_eq]
  congr 1
  funext c
  simp
theorem SoR.xorshift_Next (rb ro X:Nat) (hX:X < 18446744073709551616) (w:World) (hc:w.cell? ⟨rb,ro,none⟩=some (.int .u64 X)) (hf:w.frozen? ⟨rb,ro,none⟩=false) :
    Calls Tryz.prog 268 #[.pointer (some ⟨rb,ro,none⟩)] w fun e w'=>e=.returned (.int .u64 (xorNextN X:Nat))∧w'=(w.setCell ⟨rb,ro,none⟩ (.int .u64 (xorNextN X:Nat))).drewN 3:=by
  obtain ⟨A,hA⟩ : ∃ A:Nat,A=X ^^^ (X * 8192 % 18446744073709551616):=⟨_,rfl⟩;obtain ⟨B,hB⟩ : ∃ B:Nat,B=A ^^^ (A / 128):=⟨_,rfl⟩;obtain ⟨C,hC⟩ : ∃ C:Nat,C=B ^^^ (B * 131072 % 18446744073709551616):=⟨_,rfl⟩
  have lA:A < 18446744073709551616:=by rw [hA]; exact Nat.xor_lt_two_pow (n:=64) (by omega) (by omega)
  have lB:B < 18446744073709551616:=by rw [hB]; exact Nat.xor_lt_two_pow (n:=64) (by omega) (by omega)
  have e1:bits .xor .u64 (X:Int) (IntKind.u64.wrap ((X:Int) * 8192))=(A:Int):=by
    rw [IntKind.wrap_u64,show ((X:Int) * 8192 % 18446744073709551616)=((X * 8192 % 18446744073709551616:Nat):Int) by omega,bits_xor_u64_nat _ _ hX (by omega),hA]
  have e2:bits .xor .u64 (A:Int) ((A:Int) / 128)=(B:Int):=by
    rw [show ((A:Int) / 128)=((A / 128:Nat):Int) by omega,bits_xor_u64_nat _ _ lA (by omega),hB]
  have e3:bits .xor .u64 (B:Int) (IntKind.u64.wrap ((B:Int) * 131072))=(C:Int):=by
    rw [IntKind.wrap_u64,show ((B:Int) * 131072 % 18446744073709551616)=((B * 131072 % 18446744073709551616:Nat):Int) by omega,bits_xor_u64_nat _ _ lB (by omega),hC]
  have hv:xorNextN X=C:=by unfold xorNextN; simp only []; rw [← hA,← hB,← hC]
  rw [hv];clear hA hB hC hv;have hss:∀ v v',(w.setCell ⟨rb,ro,none⟩ v).setCell ⟨rb,ro,none⟩ v'=w.setCell ⟨rb,ro,none⟩ v':=setCell_setCell w rb ro
  go_enter Tryz.func268,Tryz.ntmps268
  go_wp2
  go_region
  all_goals go_wp2
  all_goals go_region
  all_goals go_wp2
  all_goals go_region
  all_goals go_wp2
  go_ret;exact ⟨rfl,rfl⟩
theorem wrap_two_pow (k:Nat) (hk:k≤62):IntKind.u64.wrap ((2:Int) ^ k)=((1 <<< k:Nat):Int):=by
  have h:(2:Nat) ^ k≤2 ^ 62:=Nat.pow_le_pow_right (by decide) hk;rw [IntKind.wrap_u64,Nat.one_shiftLeft,show ((2:Int) ^ k)=((2 ^ k:Nat):Int) by push_cast; rfl];generalize (2:Nat) ^ k=p at h;omega
theorem SoR.nextPowerOfTwo (n:Nat) (hn:n < 4611686018427387904) (w:World) :
    Calls Tryz.prog 267 #[.int .i64 n] w fun e w'=>e=.returned (.int .u64 ((1 <<< bitsLen n:Nat):Int))∧w'=w:=by
  have hLen:∀ w,Calls Tryz.prog 254 #[.int .u64 (n:Int)] w fun e w'=>e=.returned (.int .i64 (bitsLen n:Nat))∧w'=w:=fun w=>by
    have h:=SoR.bits_Len (n:Int) w (by omega) (by omega)
    rwa [Int.toNat_natCast,bitLen_eq _ (by omega)] at h
  have hk:bitsLen n≤62:=(bitsLen_le_iff n 62).2 (by omega);have hp:=wrap_two_pow (bitsLen n) hk
  go_enter Tryz.func267,Tryz.ntmps267
  go_wp2_with (first | (go_at_call 254; refine (hLen _).mono ?_; rintro e w' ⟨rfl,rfl⟩))
  go_ret;exact ⟨rfl,rfl⟩
end Go.Proofs.YtpfafhmkbcahhaaGreat.Srt
namespace Go.Proofs.YtpfafhmkbcahhaaGreat.Srt
open Go.RowKit Go.Sort
section
variable {α : Type} [Inhabited α]
def bpRest (a L M i0:Nat):Nat→Nat→UInt64 × Array α→Array α
  | 0,_,st=>st.2
  | k + 1,t,st=>bpRest a L M i0 k (t + 1) (breakStep a L M st (i0 + t))
theorem breakPatterns_eq (d:Array α) (a L:Nat) (h8:8≤L):breakPatterns d a (a + L)=bpRest a L (1 <<< bitsLen L) (a + L / 4 * 2 - 1) 3 0 (UInt64.ofNat L,d):=by
  unfold breakPatterns
  simp only [Nat.add_sub_cancel_left]
  rw [if_pos h8];rfl
theorem bp_step (a L M i0 t:Nat) (r:UInt64) (d:Array α) (o:Nat) (ht:t < 3) (ho:(if (xorNext r).toNat &&& (M - 1) ≥ L then ((xorNext r).toNat &&& (M - 1)) - L else (xorNext r).toNat &&& (M - 1))=o) :
    bpRest a L M i0 (3 - t) t (r,d)=bpRest a L M i0 (3 - (t + 1)) (t + 1) (xorNext r,swp d (i0 + t) (a + o)):=by
  rw [show 3 - t=(3 - (t + 1)) + 1 by omega,bpRest];unfold breakStep
  simp only [ho]
theorem grow_one_cell (X:World) (v:Value) (T:TypeId):(grow X #[Obj.cells #[v] T]).cell? ⟨X.heap.size,0,none⟩=some v:=by
  rw [← alloc_eq_grow,World.cell?_alloc_at _ _ _ _ rfl]; rfl
theorem grow_one_frozen (X:World) (v:Value) (T:TypeId):(grow X #[Obj.cells #[v] T]).frozen? ⟨X.heap.size,0,none⟩=false:=by
  rw [← alloc_eq_grow,World.frozen?_alloc_at _ _ _ _ rfl]
theorem setCell_grow (X:World) (os:Array Obj) (blk off:Nat) (v:Value) (h:blk < X.heap.size):(grow X os).setCell ⟨blk,off,none⟩ v=grow (X.setCell ⟨blk,off,none⟩ v) os:=by
  rw [setCell_eq,setCell_eq,mapBlock_grow _ _ _ _ h]
theorem setCell_grow_one (X:World) (u v:Value) (T:TypeId):(grow X #[Obj.cells #[u] T]).setCell ⟨X.heap.size,0,none⟩ v=grow X #[Obj.cells #[v] T]:=by
  rw [setCell_eq,mapBlock_grow_new _ _ _ _ (Nat.le_refl _)]
  simp [onCells]
theorem step_world (enc:α→Value) (w:World) (n q blk off:Nat) (d:Array α) (j k:Nat) (hblk:blk < w.heap.size) (hj:j < d.size) (hk:k < d.size) (u v:Value) (T:TypeId) :
    ((((grow (putRow enc (Sort.ahead w n) blk off d) #[Obj.cells #[u] T]).setCell ⟨w.heap.size,0,none⟩ v).drewN q).setCell ⟨blk,off + j,none⟩ (enc d[k]!)).setCell ⟨blk,off + k,none⟩ (enc d[j]!) =
      grow (putRow enc (Sort.ahead w (n + q)) blk off (swp d j k)) #[Obj.cells #[v] T]:=by
  have hz:(putRow enc (Sort.ahead w n) blk off d).heap.size=w.heap.size:=by simp
  rw [← hz,setCell_grow_one,show (grow (putRow enc (Sort.ahead w n) blk off d) #[Obj.cells #[v] T]).drewN q=grow ((putRow enc (Sort.ahead w n) blk off d).drewN q) #[Obj.cells #[v] T] from rfl,putRow_drewN,
    setCell_grow _ _ _ _ _ (by simpa using hblk),setCell_grow _ _ _ _ _ (by simpa using hblk),putRow_swp enc _ blk off d j k hj hk]
end
set_option maxHeartbeats 1000000 in
set_option maxRecDepth 100000 in
theorem SoR.breakPatterns_int_go (blk off cap a L:Nat) (d:Array Int) (w:World) (hH:Holds (Value.int .u32) w blk off d) (hblk:blk < w.heap.size) (hb:a + L≤d.size) (hsz:d.size < 4611686018427387904) (h8:8≤L) :
    Calls Tryz.prog 257 #[.slice (some ⟨blk,off,none⟩) d.size cap,.int .i64 a,.int .i64 ((a + L:Nat):Int)] w fun e w' =>
      e=.returned (.tuple #[])∧∃ n os,w'=grow (putRow (Value.int .u32) (Sort.ahead w n) blk off (breakPatterns d a (a + L))) os:=by
  rw [breakPatterns_eq d a L h8];obtain ⟨M,hM⟩ : ∃ M:Nat,M=1 <<< bitsLen L:=⟨_,rfl⟩
  have hM1:1≤M:=by rw [hM,Nat.one_shiftLeft]; exact Nat.two_pow_pos _
  have hM2:M≤2 * L:=by rw [hM,Nat.one_shiftLeft]; exact two_pow_bitsLen_le (by omega)
  have hNP:∀ w,Calls Tryz.prog 267 #[.int .i64 (L:Int)] w fun e w'=>e=.returned (.int .u64 (M:Int))∧w'=w:=by rw [hM]; exact fun w=>SoR.nextPowerOfTwo L (by omega) w
  rw [← hM];clear hM;have HH:Hid (Holds (Value.int .u32) w blk off d):=hH
  have HST:Hid (w.alloc (Obj.cells #[.int .u64 (L:Int)] 336)=grow (putRow (Value.int .u32) (Sort.ahead w 0) blk off d) #[Obj.cells #[.int .u64 ((UInt64.ofNat L).toNat:Int)] 336]):=by
    show _=_
    rw [show Sort.ahead w 0=w from rfl,putRow_self _ _ _ _ _ hH,alloc_eq_grow,show (UInt64.ofNat L).toNat=L from by simp; omega]
  clear hH
  go_enter Tryz.func257,Tryz.ntmps257
  go_wp2_with (first | (go_at_call 267; rw [show ((a:Int) + (L:Int) - (a:Int))=(L:Int) by omega]; refine (hNP _).mono ?_; rintro e w' ⟨rfl,rfl⟩))
  go_loopw [9] (fun vi wr=>∃ (t n:Nat) (r:UInt64) (dk:Array Int),vi=.int .i64 ((a + L / 4 * 2 - 1 + t:Nat):Int)∧t≤3∧dk.size=d.size ∧
      wr=grow (putRow (Value.int .u32) (Sort.ahead w n) blk off dk) #[Obj.cells #[.int .u64 (r.toNat:Int)] 336] ∧
      bpRest a L M (a + L / 4 * 2 - 1) (3 - t) t (r,dk)=bpRest a L M (a + L / 4 * 2 - 1) 3 0 (UInt64.ofNat L,d)) (fun vi _=>a + L / 4 * 2 + 3 - (intOf vi).toNat)
  case atStart=>exact ⟨0,0,UInt64.ofNat L,d,by congr 1; omega,by omega,rfl,HST.out,rfl⟩
  case round =>
    obtain ⟨t,n,r,dk,rfl,ht,hsk,hw,hR⟩:=hrel;obtain ⟨R,hRr⟩ : ∃ R:Nat,R=r.toNat:=⟨_,rfl⟩
    have lR:R < 18446744073709551616:=by rw [hRr]; exact r.toNat_lt
    obtain ⟨R',hR'⟩ : ∃ R':Nat,R'=xorNextN R:=⟨_,rfl⟩
    have lR':R' < 18446744073709551616:=by rw [hR']; exact xorNextN_lt R lR
    obtain ⟨O,hO⟩ : ∃ O:Nat,O=R' &&& (M - 1):=⟨_,rfl⟩
    have lO:O≤M - 1:=by rw [hO]; exact Nat.and_le_right
    have eAnd:bits .and .u64 (R':Int) ((M:Int) - 1)=(O:Int):=by
      rw [show ((M:Int) - 1)=((M - 1:Nat):Int) by omega,bits_and_u64_nat _ _ lR' (by omega),hO]
    obtain ⟨G,hG⟩ : ∃ G:Nat→Int,∀ x,G x=dk[x]! := ⟨fun x=>dk[x]!,fun _=>rfl⟩
    have hz:(putRow (Value.int .u32) (Sort.ahead w n) blk off dk).heap.size=w.heap.size:=by simp
    have hcw:∀ x,x < d.size→wr.cell? ⟨blk,off + x,none⟩=some (.int .u32 (G x)):=fun x hx=>by
      rw [hw,cell?_grow _ _ _ (by rw [hz]; exact hblk),hG]; exact cell?_putRow _ _ _ _ d dk (holds_ahead _ _ _ _ _ _ HH.out) hsk x (by omega)
    have hfw:∀ x,x < d.size→wr.frozen? ⟨blk,off + x,none⟩=false:=fun x hx=>by
      rw [hw,frozen?_grow _ _ _ (by rw [hz]; exact hblk),frozen?_putRow]; exact ((holds_ahead _ _ n _ _ _ HH.out) x hx).2
    have hcB:wr.cell? ⟨w.heap.size,0,none⟩=some (.int .u64 (R:Int)):=by rw [hw,hRr,← hz]; exact grow_one_cell _ _ _
    have hfB:wr.frozen? ⟨w.heap.size,0,none⟩=false:=by rw [hw,← hz]; exact grow_one_frozen _ _ _
    have hNext:Calls Tryz.prog 268 #[.pointer (some ⟨w.heap.size,0,none⟩)] wr fun e w'=>e=.returned (.int .u64 (R':Int))∧w'=(wr.setCell ⟨w.heap.size,0,none⟩ (.int .u64 (R':Int))).drewN 3:=by
      rw [hR']; exact SoR.xorshift_Next _ _ R lR wr hcB hfB
    have HW:Hid (wr=grow (putRow (Value.int .u32) (Sort.ahead w n) blk off dk) #[Obj.cells #[.int .u64 (r.toNat:Int)] 336]):=hw;have HG:Hid (∀ x,G x=dk[x]!):=hG;have HR:Hid (bpRest a L M (a + L / 4 * 2 - 1) (3 - t) t (r,dk)=bpRest a L M (a + L / 4 * 2 - 1) 3 0 (UInt64.ofNat L,d)):=hR
    have HN:Hid (R'=(xorNext r).toNat∧O=(xorNext r).toNat &&& (M - 1)):=by
      have e:R'=(xorNext r).toNat:=by rw [hR',hRr,xorNext_toNat]
      exact ⟨e,by rw [hO,e]⟩
    clear hw hG hR hRr hR' hO
    go_wp2_with (first | (go_at_call 268; refine hNext.mono ?_; rintro e w' ⟨rfl,rfl⟩))
    · -- other >= length: other -= length
      have hLO:L≤O:=by omega
      by_cases hEq:a + L / 4 * 2 - 1 + t=a + (O - L)
      all_goals
        go_region
        all_goals go_wp2
        go_roundw
        case rel =>
          refine ⟨t + 1,n + 4,xorNext r,swp dk (a + L / 4 * 2 - 1 + t) (a + (O - L)),by first | rfl | (congr 1 <;> omega),by omega,by rw [size_swp]; exact hsk,?_,?_⟩
          · (try rw [hEq])      -- (where the two places are one,the walk has written the one for the other)
            rw [HW.out,HN.out.1]
            simp only [HG.out]
            exact step_world (Value.int .u32) w n 4 blk off dk _ _ hblk (by omega) (by omega) _ _ _
          · rw [← HR.out,bp_step a L M _ t r dk (O - L) (by omega) (by rw [← HN.out.2,if_pos (by omega)])]
        case measure=>simp [intOf]; omega
    · have hLO:¬ L≤O:=by omega
      by_cases hEq:a + L / 4 * 2 - 1 + t=a + O
      all_goals
        go_region
        all_goals go_wp2
        go_roundw
        case rel =>
          refine ⟨t + 1,n + 4,xorNext r,swp dk (a + L / 4 * 2 - 1 + t) (a + O),by first | rfl | (congr 1 <;> omega),by omega,by rw [size_swp]; exact hsk,?_,?_⟩
          · (try rw [hEq])      -- (where the two places are one,the walk has written the one for the other)
            rw [HW.out,HN.out.1]
            simp only [HG.out]
            exact step_world (Value.int .u32) w n 4 blk off dk _ _ hblk (by omega) (by omega) _ _ _
          · rw [← HR.out,bp_step a L M _ t r dk O (by omega) (by rw [← HN.out.2,if_neg (by omega)])]
        case measure=>simp [intOf]; omega
    · -- three rounds are done
      obtain rfl:t=3:=by omega
      go_end0;exact ⟨rfl,n,_,by rw [← HR.out,HW.out]; rfl⟩
theorem SoR.breakPatterns_int (blk off cap a b:Nat) (d:Array Int) (w:World) (hH:Holds (Value.int .u32) w blk off d) (hblk:blk < w.heap.size) (hab:a≤b) (hb:b≤d.size) (hsz:d.size < 4611686018427387904) :
    Calls Tryz.prog 257 #[.slice (some ⟨blk,off,none⟩) d.size cap,.int .i64 a,.int .i64 b] w fun e w' =>
      e=.returned (.tuple #[])∧∃ n os,w'=grow (putRow (Value.int .u32) (Sort.ahead w n) blk off (breakPatterns d a b)) os:=by
  obtain ⟨L,rfl⟩ : ∃ L,b=a + L:=⟨b - a,by omega⟩
  by_cases h8:8≤L
  · exact SoR.breakPatterns_int_go blk off cap a L d w hH hblk hb hsz h8
  · have hv:breakPatterns d a (a + L)=d:=by unfold breakPatterns; simp only [Nat.add_sub_cancel_left]; rw [if_neg h8]
    rw [hv]
    have HST:Hid (w=grow (putRow (Value.int .u32) (Sort.ahead w 0) blk off d) #[]):=by
      show _=_
      rw [grow_empty,show Sort.ahead w 0=w from rfl,putRow_self _ _ _ _ _ hH]
    clear hH
    go_enter Tryz.func257,Tryz.ntmps257
    go_wp2
    go_end0;exact ⟨rfl,0,#[],HST.out⟩
end Go.Proofs.YtpfafhmkbcahhaaGreat.Srt
namespace Go.Proofs.YtpfafhmkbcahhaaGreat.Srt
open Go.Sort Go.RowKit
abbrev one (s:Nat):Array Int:=#[(s:Int)]
theorem one_cell {w:World} {sb so s:Nat} (h:Holds (Value.int .i64) w sb so (one s)):w.cell? ⟨sb,so,none⟩=some (.int .i64 s)∧w.frozen? ⟨sb,so,none⟩=false:=by simpa using h 0 (by simp)
theorem one_set {w:World} {sb so s:Nat} (h:Holds (Value.int .i64) w sb so (one s)) (t:Nat):w.setCell ⟨sb,so,none⟩ (.int .i64 t)=putRow (Value.int .i64) w sb so (one t):=by
  have:=putRow_set (Value.int .i64) w sb so (one s) 0 (t:Int) (by simp);rw [putRow_self _ _ _ _ _ h] at this
  simpa using this
theorem holds_aside {w:World} {blk off sb so n t:Nat} {d:Array Int} (h:Holds (Value.int .u32) w blk off d) (hne:sb≠blk):Holds (Value.int .u32) (putRow (Value.int .i64) (Sort.ahead w n) sb so (one t)) blk off d:=fun j hj =>
  ⟨by rw [cell?_putRow_other _ _ _ _ _ _ (Or.inl (Ne.symm hne))]; exact (h j hj).1,by rw [frozen?_putRow]; exact (h j hj).2⟩
theorem one_one (w:World) (n m sb so s t:Nat):putRow (Value.int .i64) (Sort.ahead (putRow (Value.int .i64) (Sort.ahead w n) sb so (one s)) m) sb so (one t)=putRow (Value.int .i64) (Sort.ahead w (n + m)) sb so (one t) :=
  putRow_ahead_putRow _ _ _ _ _ _ _ _ rfl
set_option maxHeartbeats 1000000 in
theorem SoR.order2_int (d:Array Int) (len:Nat) (hlen:d.size=len) (blk off cap a b sb so s:Nat) (w:World) (hH:Holds (Value.int .u32) w blk off d) (ha:a < d.size) (hb:b < d.size)
    (hS:Holds (Value.int .i64) w sb so (one s)) (hs:s < 2 ^ 62) :
    Calls Tryz.prog 272 #[.slice (some ⟨blk,off,none⟩) len cap,.int .i64 a,.int .i64 b,.pointer (some ⟨sb,so,none⟩)] w fun e w' =>
      e=.returned (.tuple #[.int .i64 (order2 ltInt d a b s).1,.int .i64 (order2 ltInt d a b s).2.1])∧∃ n,w'=putRow (Value.int .i64) (Sort.ahead w n) sb so (one (order2 ltInt d a b s).2.2):=by
  subst hlen
  replace hs:s < 4611686018427387904:=by omega
  have ca:=(hH a ha).1;have cb:=(hH b hb).1;obtain ⟨cs,fs⟩:=one_cell hS;have ea:d[a]! = d[a]:=getElem!_pos d a ha;have eb:d[b]! = d[b]:=getElem!_pos d b hb
  go_enter Tryz.func272,Tryz.ntmps272
  go_wp2
  go_region_with (go_at_call 261; refine (SoR.cmp_Less_int _ _ _).mono ?_; rintro e w' ⟨rfl,rfl⟩)
  all_goals (try go_wp2)
  all_goals first
    | (have hlt:ltInt d[b] d[a]=true:=by assumption
       have e2:order2 ltInt d a b s=(b,a,s + 1):=by simp [order2,ea,eb,hlt]
       go_ret2;rw [e2];refine ⟨rfl,1,?_⟩;rw [putRow_ahead,← one_set hS (s + 1)]
       simp [drew_eq_ahead])
    | (have hlt:ltInt d[b] d[a]=false:=by assumption
       have e2:order2 ltInt d a b s=(a,b,s):=by simp [order2,ea,eb,hlt]
       go_ret2;rw [e2];refine ⟨rfl,1,?_⟩;rw [putRow_ahead,putRow_self _ _ _ _ _ hS]
       rfl)
theorem order2_lt (d:Array Int) {a b n:Nat} (s:Nat) (ha:a < n) (hb:b < n):(order2 ltInt d a b s).1 < n∧(order2 ltInt d a b s).2.1 < n:=by
  have:=order2_mem ltInt d a b s;omega
theorem order2_swaps (d:Array Int) (a b s:Nat):(order2 ltInt d a b s).2.2≤s + 1:=by
  unfold order2
  split <;> simp
theorem holds_one {w:World} {sb so s n t:Nat} (h:Holds (Value.int .i64) w sb so (one s)):Holds (Value.int .i64) (putRow (Value.int .i64) (Sort.ahead w n) sb so (one t)) sb so (one t) :=
  holds_putRow _ _ _ _ (one s) (one t) (holds_ahead _ _ _ _ _ _ h) rfl
set_option maxHeartbeats 1000000 in
set_option maxRecDepth 100000 in
theorem SoR.median_int (d:Array Int) (len:Nat) (hlen:d.size=len) (blk off cap a b c sb so s:Nat) (w:World) (hH:Holds (Value.int .u32) w blk off d) (ha:a < d.size) (hb:b < d.size) (hc:c < d.size) (hne:sb≠blk)
    (hS:Holds (Value.int .i64) w sb so (one s)) (hs:s + 3 < 2 ^ 62) :
    Calls Tryz.prog 270 #[.slice (some ⟨blk,off,none⟩) len cap,.int .i64 a,.int .i64 b,.int .i64 c,.pointer (some ⟨sb,so,none⟩)] w fun e w' =>
      e=.returned (.int .i64 (median ltInt d a b c s).1)∧∃ n,w'=putRow (Value.int .i64) (Sort.ahead w n) sb so (one (median ltInt d a b c s).2):=by
  subst hlen;have l1:=order2_lt d s ha hb;have s1:=order2_swaps d a b s;have l2:=order2_lt d (order2 ltInt d a b s).2.2 l1.2 hc;have s2:=order2_swaps d (order2 ltInt d a b s).2.1 c (order2 ltInt d a b s).2.2
  go_enter Tryz.func270,Tryz.ntmps270
  go_wp2_with (go_at_call_of 272 (Value.int .i64 (b:Int)); refine (SoR.order2_int d _ rfl blk off cap a b sb so s w hH ha hb hS (by omega)).mono ?_; rintro e w' ⟨rfl,n1,rfl⟩)
  go_wp2_with (go_at_call_of 272 (Value.int .i64 (c:Int)); refine (SoR.order2_int d _ rfl blk off cap (order2 ltInt d a b s).2.1 c sb so (order2 ltInt d a b s).2.2 _ (holds_aside hH hne) l1.2 hc (holds_one hS) (by omega)).mono ?_; rintro e w' ⟨rfl,n2,rfl⟩)
  go_wp2_with (go_at_call_of 272 (Value.int .i64 ((order2 ltInt d a b s).1:Int)); refine (SoR.order2_int d _ rfl blk off cap (order2 ltInt d a b s).1 (order2 ltInt d (order2 ltInt d a b s).2.1 c (order2 ltInt d a b s).2.2).1 sb so (order2 ltInt d (order2 ltInt d a b s).2.1 c (order2 ltInt d a b s).2.2).2.2 _
    (holds_aside (holds_aside hH hne) hne) l1.1 l2.1 (holds_one (holds_one hS)) (by omega)).mono ?_; rintro e w' ⟨rfl,n3,rfl⟩)
  go_ret;refine ⟨rfl,n1 + (n2 + n3),?_⟩;rw [one_one,one_one];rfl
end Go.Proofs.YtpfafhmkbcahhaaGreat.Srt
namespace Go.Proofs.YtpfafhmkbcahhaaGreat.Srt
open Go.Sort Go.RowKit
set_option maxHeartbeats 1000000 in
set_option maxRecDepth 100000 in
theorem SoR.medianAdjacent_int (d:Array Int) (len:Nat) (hlen:d.size=len) (blk off cap a sb so s:Nat) (w:World) (hH:Holds (Value.int .u32) w blk off d) (ha0:1≤a) (ha:a + 1 < d.size) (hsz:d.size < 2 ^ 62) (hne:sb≠blk)
    (hS:Holds (Value.int .i64) w sb so (one s)) (hs:s + 3 < 2 ^ 62) :
    Calls Tryz.prog 269 #[.slice (some ⟨blk,off,none⟩) len cap,.int .i64 a,.pointer (some ⟨sb,so,none⟩)] w fun e w' =>
      e=.returned (.int .i64 (medianAdjacent ltInt d a s).1)∧∃ n,w'=putRow (Value.int .i64) (Sort.ahead w n) sb so (one (medianAdjacent ltInt d a s).2):=by
  subst hlen
  replace hsz:d.size < 4611686018427387904:=by omega
  go_enter Tryz.func269,Tryz.ntmps269
  go_wp2_with (go_at_call 270; rw [show ((a:Int) - 1)=((a - 1:Nat):Int) by omega,show ((a:Int) + 1)=((a + 1:Nat):Int) by omega]; refine (SoR.median_int d _ rfl blk off cap (a - 1) a (a + 1) sb so s w hH (by omega) (by omega) ha hne hS hs).mono ?_; rintro e w' ⟨rfl,n1,rfl⟩)
  go_ret;exact ⟨rfl,n1,rfl⟩
end Go.Proofs.YtpfafhmkbcahhaaGreat.Srt
namespace Go.Proofs.YtpfafhmkbcahhaaGreat.Srt
open Go.Sort Go.RowKit
theorem of_beq_int {x y:Int} (h:(x == y)=true):x=y:=by simpa using h
theorem of_bne_int {x y:Int} (h:(x == y)=false):x≠y:=by simpa using h
theorem counter_grow (w:World) (N S:Nat):∃ os,putRow (Value.int .i64) (Sort.ahead (w.alloc (.cells #[.int .i64 0] 3)) N) w.heap.size 0 (one S)=grow (Sort.ahead w N) os:=by
  rw [alloc_eq_grow,ahead_grow];obtain ⟨os,_,h⟩:=putRow_grow_new (Value.int .i64) (Sort.ahead w N) #[.cells #[.int .i64 0] 3] w.heap.size 0 (one S) (Nat.le_refl _);exact ⟨os,h⟩
theorem pivot_world_int (blk off cap:Nat) (d:Array Int) (w:World) (hH:Holds (Value.int .u32) w blk off d) (hblk:blk < w.heap.size) (hsz:d.size < 4611686018427387904) :
    ∃ Wc:Nat→Nat→World,
      w.alloc (.cells #[.int .i64 0] 3)=Wc 0 0 ∧
      (∀ N S:Nat,(Wc N S).cell? ⟨w.heap.size,0,none⟩=some (.int .i64 (S:Int))) ∧
      (∀ N S:Nat,∃ os,Wc N S=grow (Sort.ahead w N) os) ∧
      (∀ x s N:Nat,1≤x→x + 1 < d.size→s + 3 < 4611686018427387904→Calls Tryz.prog 269 #[.slice (some ⟨blk,off,none⟩) d.size cap,.int .i64 (x:Int),.pointer (some ⟨w.heap.size,0,none⟩)] (Wc N s) fun e w' =>
        e=.returned (.int .i64 ((medianAdjacent ltInt d x s).1:Int))∧∃ N',w'=Wc N' (medianAdjacent ltInt d x s).2) ∧
      (∀ x y z s N:Nat,x < d.size→y < d.size→z < d.size→s + 3 < 4611686018427387904→Calls Tryz.prog 270 #[.slice (some ⟨blk,off,none⟩) d.size cap,.int .i64 (x:Int),.int .i64 (y:Int),.int .i64 (z:Int),.pointer (some ⟨w.heap.size,0,none⟩)] (Wc N s) fun e w' =>
        e=.returned (.int .i64 ((median ltInt d x y z s).1:Int))∧∃ N',w'=Wc N' (median ltInt d x y z s).2):=by
  have hne:w.heap.size≠blk:=by omega
  have hH0:Holds (Value.int .u32) (w.alloc (.cells #[.int .i64 0] 3)) blk off d:=by rw [alloc_eq_grow]; exact holds_grow _ _ _ _ _ _ hblk hH
  have hS0:Holds (Value.int .i64) (w.alloc (.cells #[.int .i64 0] 3)) w.heap.size 0 (one 0):=fun j hj=>by
    obtain rfl:j=0:=by simpa using hj
    simp
  refine ⟨fun N S=>putRow (Value.int .i64) (Sort.ahead (w.alloc (.cells #[.int .i64 0] 3)) N) w.heap.size 0 (one S),(putRow_self _ _ _ _ _ hS0).symm,fun N S=>(one_cell (holds_one (n:=N) (t:=S) hS0)).1,fun N S=>counter_grow w N S,?_,?_⟩
  · intro x s N h1 h2 hs
    refine (SoR.medianAdjacent_int d _ rfl blk off cap x w.heap.size 0 s _ (holds_aside hH0 hne) h1 h2 (by omega) hne (holds_one hS0) (by omega)).mono ?_;rintro e w' ⟨he,n,hw⟩;exact ⟨he,N + n,by rw [hw,one_one]⟩
  · intro x y z s N h1 h2 h3 hs
    refine (SoR.median_int d _ rfl blk off cap x y z w.heap.size 0 s _ (holds_aside hH0 hne) h1 h2 h3 hne (holds_one hS0) (by omega)).mono ?_;rintro e w' ⟨he,n,hw⟩;exact ⟨he,N + n,by rw [hw,one_one]⟩
set_option maxRecDepth 100000 in
theorem SoR.choosePivot_int (blk off cap a b:Nat) (d:Array Int) (w:World) (hH:Holds (Value.int .u32) w blk off d) (hblk:blk < w.heap.size) (hab:a < b) (hb:b≤d.size) (hsz:d.size < 4611686018427387904) :
    Calls Tryz.prog 258 #[.slice (some ⟨blk,off,none⟩) d.size cap,.int .i64 a,.int .i64 b] w fun e w' =>
      e=.returned (.tuple #[.int .i64 (choosePivot ltInt d a b).1,.int .i64 (hintCode (choosePivot ltInt d a b).2)])∧∃ n os,w'=grow (Sort.ahead w n) os:=by
  obtain ⟨Wc,hW0,cS,hG,MA,MD⟩:=pivot_world_int blk off cap d w hH hblk hsz;clear hH;rw [choosePivot_eq];obtain ⟨I,hI⟩ : ∃ I:Nat,I=a + (b - a) / 4 * 1:=⟨_,rfl⟩;obtain ⟨J,hJ⟩ : ∃ J:Nat,J=a + (b - a) / 4 * 2:=⟨_,rfl⟩;obtain ⟨K,hK⟩ : ∃ K:Nat,K=a + (b - a) / 4 * 3:=⟨_,rfl⟩
  have eI:((a:Int) + ((b:Int) - (a:Int)) / 4)=(I:Int):=by omega
  have eJ:((a:Int) + ((b:Int) - (a:Int)) / 4 * 2)=(J:Int):=by omega
  have eK:((a:Int) + ((b:Int) - (a:Int)) / 4 * 3)=(K:Int):=by omega
  by_cases h8:b - a ≥ 8
  · by_cases h50:b - a ≥ 50
    · -- THE NINTHER
      obtain ⟨i1,s1,h1⟩ : ∃ i1 s1,medianAdjacent ltInt d I 0=(i1,s1):=⟨_,_,rfl⟩;obtain ⟨j1,s2,h2⟩ : ∃ j1 s2,medianAdjacent ltInt d J s1=(j1,s2):=⟨_,_,rfl⟩;obtain ⟨k1,s3,h3⟩ : ∃ k1 s3,medianAdjacent ltInt d K s2=(k1,s3):=⟨_,_,rfl⟩;obtain ⟨p,s,h4⟩ : ∃ p s,median ltInt d i1 j1 k1 s3=(p,s):=⟨_,_,rfl⟩
      have hraw:rawPivot ltInt d a b=(p,s):=by simp only [rawPivot,if_pos h8,if_pos h50,← hI,← hJ,← hK,h1,h2,h3,h4]
      have m1:=medianAdjacent_mem ltInt d I 0; rw [h1] at m1
      have m2:=medianAdjacent_mem ltInt d J s1; rw [h2] at m2
      have m3:=medianAdjacent_mem ltInt d K s2; rw [h3] at m3
      have n1:=medianAdjacent_count ltInt d I 0; rw [h1] at n1
      have n2:=medianAdjacent_count ltInt d J s1; rw [h2] at n2
      have n3:=medianAdjacent_count ltInt d K s2; rw [h3] at n3
      simp only [] at m1 m2 m3 n1 n2 n3
      have c1:Calls Tryz.prog 269 #[.slice (some ⟨blk,off,none⟩) d.size cap,.int .i64 (I:Int),.pointer (some ⟨w.heap.size,0,none⟩)] (Wc 0 0) fun e w'=>e=.returned (.int .i64 (i1:Int))∧∃ N',w'=Wc N' s1:=by
        have h:=MA I 0 0 (by omega) (by omega) (by omega); rw [h1] at h; exact h
      have c2:∀ N,Calls Tryz.prog 269 #[.slice (some ⟨blk,off,none⟩) d.size cap,.int .i64 (J:Int),.pointer (some ⟨w.heap.size,0,none⟩)] (Wc N s1) fun e w'=>e=.returned (.int .i64 (j1:Int))∧∃ N',w'=Wc N' s2:=fun N=>by
        have h:=MA J s1 N (by omega) (by omega) (by omega); rw [h2] at h; exact h
      have c3:∀ N,Calls Tryz.prog 269 #[.slice (some ⟨blk,off,none⟩) d.size cap,.int .i64 (K:Int),.pointer (some ⟨w.heap.size,0,none⟩)] (Wc N s2) fun e w'=>e=.returned (.int .i64 (k1:Int))∧∃ N',w'=Wc N' s3:=fun N=>by
        have h:=MA K s2 N (by omega) (by omega) (by omega); rw [h3] at h; exact h
      have c4:∀ N,Calls Tryz.prog 270 #[.slice (some ⟨blk,off,none⟩) d.size cap,.int .i64 (i1:Int),.int .i64 (j1:Int),.int .i64 (k1:Int),.pointer (some ⟨w.heap.size,0,none⟩)] (Wc N s3) fun e w'=>e=.returned (.int .i64 (p:Int))∧∃ N',w'=Wc N' s:=fun N=>by
        have h:=MD i1 j1 k1 s3 N (by omega) (by omega) (by omega) (by omega); rw [h4] at h; exact h
      rw [hraw];obtain ⟨Hc,hHc⟩ : ∃ Hc:Int,Hc=hintCode (hintOf s):=⟨_,rfl⟩
      have hh0:s=0→Hc=1:=fun h=>by rw [hHc,h]; rfl
      have hh12:s=12→Hc=2:=fun h=>by rw [hHc,h]; rfl
      have hhx:s≠0→s≠12→Hc=0:=fun h1 h2=>by rw [hHc]; unfold hintOf; rw [if_neg h1,if_neg h2]; rfl
      show Calls Tryz.prog 258 _ w fun e w'=>e=.returned (.tuple #[.int .i64 (p:Int),.int .i64 (hintCode (hintOf s))])∧∃ n os,w'=grow (Sort.ahead w n) os
      rw [← hHc];clear hHc hraw;clear h1 h2 h3 h4 MA MD hI hJ hK m1 m2 m3
      go_enter Tryz.func258,Tryz.ntmps258
      go_wp2_with (first
        | (go_at_call_has 269 (Value.int .i64 (I:Int)); refine c1.mono ?_; rintro e w' ⟨rfl,N1,rfl⟩)
        | (go_at_call_has 269 (Value.int .i64 (J:Int)); refine (c2 _).mono ?_; rintro e w' ⟨rfl,N2,rfl⟩)
        | (go_at_call_has 269 (Value.int .i64 (K:Int)); refine (c3 _).mono ?_; rintro e w' ⟨rfl,N3,rfl⟩)
        | (go_at_call 270; refine (c4 _).mono ?_; rintro e w' ⟨rfl,N4,rfl⟩))
      all_goals
        go_ret2;refine ⟨?_,_,hG _ _⟩
        first
          | (have e0:(s:Int)=0:=of_beq_int (by assumption)
             rw [hh0 (by omega)]; rfl)
          | (have e1:(s:Int)=12:=of_beq_int (by assumption)
             rw [hh12 (by omega)]; rfl)
          | (have e0:(s:Int)≠0:=of_bne_int (by assumption)
             have e1:(s:Int)≠12:=of_bne_int (by assumption)
             rw [hhx (by omega) (by omega)]; rfl)
          | (rw [hh0 (by omega)]; rfl)
    · -- THE MEDIAN OF THREE
      obtain ⟨p,s,h4⟩ : ∃ p s,median ltInt d I J K 0=(p,s):=⟨_,_,rfl⟩
      have hraw:rawPivot ltInt d a b=(p,s):=by simp only [rawPivot,if_pos h8,if_neg h50,← hI,← hJ,← hK,h4]
      have c4:Calls Tryz.prog 270 #[.slice (some ⟨blk,off,none⟩) d.size cap,.int .i64 (I:Int),.int .i64 (J:Int),.int .i64 (K:Int),.pointer (some ⟨w.heap.size,0,none⟩)] (Wc 0 0) fun e w'=>e=.returned (.int .i64 (p:Int))∧∃ N',w'=Wc N' s:=by
        have h:=MD I J K 0 0 (by omega) (by omega) (by omega) (by omega); rw [h4] at h; exact h
      rw [hraw];obtain ⟨Hc,hHc⟩ : ∃ Hc:Int,Hc=hintCode (hintOf s):=⟨_,rfl⟩
      have hh0:s=0→Hc=1:=fun h=>by rw [hHc,h]; rfl
      have hh12:s=12→Hc=2:=fun h=>by rw [hHc,h]; rfl
      have hhx:s≠0→s≠12→Hc=0:=fun h1 h2=>by rw [hHc]; unfold hintOf; rw [if_neg h1,if_neg h2]; rfl
      show Calls Tryz.prog 258 _ w fun e w'=>e=.returned (.tuple #[.int .i64 (p:Int),.int .i64 (hintCode (hintOf s))])∧∃ n os,w'=grow (Sort.ahead w n) os
      rw [← hHc];clear hHc hraw;clear h4 MA MD hI hJ hK
      go_enter Tryz.func258,Tryz.ntmps258
      go_wp2_with (first | (go_at_call 270; refine c4.mono ?_; rintro e w' ⟨rfl,N4,rfl⟩))
      all_goals
        go_ret2;refine ⟨?_,_,hG _ _⟩
        first
          | (have e0:(s:Int)=0:=of_beq_int (by assumption)
             rw [hh0 (by omega)]; rfl)
          | (have e1:(s:Int)=12:=of_beq_int (by assumption)
             rw [hh12 (by omega)]; rfl)
          | (have e0:(s:Int)≠0:=of_bne_int (by assumption)
             have e1:(s:Int)≠12:=of_bne_int (by assumption)
             rw [hhx (by omega) (by omega)]; rfl)
          | (rw [hh0 (by omega)]; rfl)
  · -- FEWER THAN EIGHT: the middle; nothing is counted
    obtain ⟨p,hp⟩ : ∃ p:Nat,p=J:=⟨_,rfl⟩;obtain ⟨s,hs⟩ : ∃ s:Nat,s=0:=⟨_,rfl⟩
    have hraw:rawPivot ltInt d a b=(p,s):=by simp only [rawPivot,if_neg h8,← hJ,hp,hs]
    rw [hraw];obtain ⟨Hc,hHc⟩ : ∃ Hc:Int,Hc=hintCode (hintOf s):=⟨_,rfl⟩
    have hh0:s=0→Hc=1:=fun h=>by rw [hHc,h]; rfl
    have hh12:s=12→Hc=2:=fun h=>by rw [hHc,h]; rfl
    have hhx:s≠0→s≠12→Hc=0:=fun h1 h2=>by rw [hHc]; unfold hintOf; rw [if_neg h1,if_neg h2]; rfl
    show Calls Tryz.prog 258 _ w fun e w'=>e=.returned (.tuple #[.int .i64 (p:Int),.int .i64 (hintCode (hintOf s))])∧∃ n os,w'=grow (Sort.ahead w n) os
    rw [← hHc];clear hHc hraw;subst hp;clear MA MD hI hJ hK
    have hW0':w.alloc (.cells #[.int .i64 0] 3)=Wc 0 s:=by rw [hs]; exact hW0
    clear hW0
    go_enter Tryz.func258,Tryz.ntmps258
    go_wp2
    all_goals
      go_ret2;refine ⟨?_,_,hG _ _⟩
      first
        | (have e0:(s:Int)=0:=of_beq_int (by assumption)
           rw [hh0 (by omega)]; rfl)
        | (have e1:(s:Int)=12:=of_beq_int (by assumption)
           rw [hh12 (by omega)]; rfl)
        | (have e0:(s:Int)≠0:=of_bne_int (by assumption)
           have e1:(s:Int)≠12:=of_bne_int (by assumption)
           rw [hhx (by omega) (by omega)]; rfl)
        | (rw [hh0 (by omega)]; rfl)
end Go.Proofs.YtpfafhmkbcahhaaGreat.Srt
namespace Go.Proofs.YtpfafhmkbcahhaaGreat.Srt
open Go.Sort Go.RowKit
abbrev encI:Int→Value:=fun x=>Value.int .u32 x
theorem swap_world {α : Type} [Inhabited α] (enc:α→Value) {w wr:World} {n blk off:Nat} {dk:Array α} {i j:Nat} (hi:i < dk.size) (hj:j < dk.size) (hwr:wr=putRow enc (Sort.ahead w n) blk off dk)
    {x y:Value} (hx:x=enc dk[j]!) (hy:y=enc dk[i]!):((wr.setCell ⟨blk,off + i,none⟩ x).setCell ⟨blk,off + j,none⟩ y).drew=putRow enc (Sort.ahead w (n + 1)) blk off (swp dk i j):=by
  subst hwr; subst hx; subst hy
  rw [putRow_swp enc _ blk off dk i j hi hj,← ahead_drew];rfl
set_option maxHeartbeats 1600000 in
set_option maxRecDepth 1000000 in
theorem SoR.reverseRange_int (blk off cap:Nat) (d:Array Int) (a b:Nat) (w:World) (hH:Holds encI w blk off d) (hab:a≤b) (hb:b≤d.size) (hsz:d.size < 4611686018427387904) :
    Calls Tryz.prog 259 #[.slice (some ⟨blk,off,none⟩) d.size cap,.int .i64 a,.int .i64 b] w fun e w'=>e=.returned (.tuple #[])∧∃ n,w'=putRow encI (Sort.ahead w n) blk off (reverseRange d a b):=by
  go_enter Tryz.func259,Tryz.ntmps259
  go_wp2
  go_loopg [6,7] (b - a) (fun k s6 s7 wr=>∃ (i jn:Nat) (jz:Int) (dk:Array Int) (n:Nat),s6=.int .i64 i∧s7=.int .i64 jz∧((i:Int) < jz→jz=jn∧jn < d.size)∧(¬ (i:Int) < jz→¬ i < jn)∧jn - i≤k ∧
    dk.size=d.size∧wr=putRow encI (Sort.ahead w n) blk off dk∧reverseLoop i jn dk=reverseLoop a (b - 1) d)
  case atStart=>exact ⟨a,b - 1,(b:Int) - 1,d,0,rfl,rfl,fun h=>⟨by omega,by omega⟩,fun h=>by omega,by omega,rfl,(putRow_self encI w blk off d hH).symm,rfl⟩
  case round =>
    obtain ⟨i,jn,jz,dk,n,rfl,rfl,h1,h2,hk,hds,hwr,heq⟩:=hrel
    by_cases hlt:(i:Int) < jz
    · obtain ⟨rfl,hjn⟩:=h1 hlt
      have hij:i < jn:=by omega
      have hHk:Holds encI wr blk off dk:=by rw [hwr]; exact holds_putRow encI _ blk off d dk (holds_ahead encI w n blk off d hH) hds
      obtain ⟨ci,fi⟩:=hHk i (by omega);obtain ⟨cj,fj⟩:=hHk jn (by omega);have A:Aside (wr=putRow encI (Sort.ahead w n) blk off dk):=hwr;clear hwr hHk hH h1 h2;go_wp2_with fail
      go_region
      go_wp2
      go_roundg (jn - 1 - (i + 1))
      case measure=>omega
      case rel =>
        rw [reverseLoop,if_pos hij] at heq
        exact ⟨i + 1,jn - 1,(jn:Int) - 1,swp dk i jn,n + 1,by simp,rfl,fun h=>⟨by omega,by omega⟩,fun h=>by omega,Nat.le_refl _,by rw [size_swp]; exact hds,
          swap_world encI (by omega) (by omega) A.out (by simp [encI,getElem!_pos,show jn < dk.size by omega]) rfl,heq⟩
    · have hnot:=h2 hlt
      go_wp2
      go_end0;refine ⟨rfl,n,?_⟩;rw [reverseLoop,if_neg hnot] at heq;rw [reverseRange,← heq]
end Go.Proofs.YtpfafhmkbcahhaaGreat.Srt
namespace Go.Sort
variable {α : Type} [Inhabited α] (lt:α→α→Bool)
theorem sd_end {hi F root:Nat} (d:Array α) (h:hi≤2 * root + 1):siftDown lt hi F root d=d:=by rw [siftDown,dif_pos h]
theorem sd_right_stop {hi F root:Nat} (d:Array α) (h1:2 * root + 2 < hi) (h2:lt d[F + (2 * root + 1)]! d[F + (2 * root + 2)]! = true) (h3:lt d[F + root]! d[F + (2 * root + 2)]! = false):siftDown lt hi F root d=d:=by
  rw [siftDown,dif_neg (by omega),show F + (2 * root + 1) + 1=F + (2 * root + 2) by omega,h2,h3]
  simp [show 2 * root + 1 + 1 < hi by omega]
theorem sd_right_go {hi F root:Nat} (d:Array α) (h1:2 * root + 2 < hi) (h2:lt d[F + (2 * root + 1)]! d[F + (2 * root + 2)]! = true) (h3:lt d[F + root]! d[F + (2 * root + 2)]! = true) :
    siftDown lt hi F root d=siftDown lt hi F (2 * root + 2) (swp d (F + root) (F + (2 * root + 2))):=by
  rw [siftDown,dif_neg (by omega),show F + (2 * root + 1) + 1=F + (2 * root + 2) by omega,h2,h3]
  simp [show 2 * root + 1 + 1 < hi by omega]
theorem sd_left_stop {hi F root:Nat} (d:Array α) (h0:2 * root + 1 < hi) (h1:2 * root + 2 < hi→lt d[F + (2 * root + 1)]! d[F + (2 * root + 2)]! = false) (h3:lt d[F + root]! d[F + (2 * root + 1)]! = false):siftDown lt hi F root d=d:=by
  rw [siftDown,dif_neg (by omega),show F + (2 * root + 1) + 1=F + (2 * root + 2) by omega,h3]
  by_cases h:2 * root + 2 < hi
  · simp [h1 h]
  · simp [show ¬ 2 * root + 1 + 1 < hi by omega]
theorem sd_left_go {hi F root:Nat} (d:Array α) (h0:2 * root + 1 < hi) (h1:2 * root + 2 < hi→lt d[F + (2 * root + 1)]! d[F + (2 * root + 2)]! = false) (h3:lt d[F + root]! d[F + (2 * root + 1)]! = true) :
    siftDown lt hi F root d=siftDown lt hi F (2 * root + 1) (swp d (F + root) (F + (2 * root + 1))):=by
  rw [siftDown,dif_neg (by omega),show F + (2 * root + 1) + 1=F + (2 * root + 2) by omega,h3]
  by_cases h:2 * root + 2 < hi
  · simp [h1 h]
  · simp [show ¬ 2 * root + 1 + 1 < hi by omega]
end Go.Sort
namespace Go.Proofs.YtpfafhmkbcahhaaGreat.Srt
open Go.Sort Go.RowKit
theorem drewN_world {α : Type} [Inhabited α] (enc:α→Value) {w wr:World} {n blk off:Nat} {dk:Array α} (hwr:wr=putRow enc (Sort.ahead w n) blk off dk) (m:Nat):wr.drewN m=putRow enc (Sort.ahead w (n + m)) blk off dk:=by
  subst hwr;rw [← ahead_ahead];rfl
set_option maxHeartbeats 3200000 in
set_option maxRecDepth 1000000 in
theorem SoR.siftDown_int (blk off len cap:Nat) (d:Array Int) (hlen:d.size=len) (lo hi first:Nat) (w:World) (hH:Holds encI w blk off d) (hlo:lo≤hi) (hb:first + hi≤d.size) (hsz:d.size < 4611686018427387904) :
    Calls Tryz.prog 266 #[.slice (some ⟨blk,off,none⟩) len cap,.int .i64 lo,.int .i64 hi,.int .i64 first] w fun e w'=>e=.returned (.tuple #[])∧∃ n,w'=putRow encI (Sort.ahead w n) blk off (siftDown ltInt hi first lo d):=by
  subst hlen
  go_enter Tryz.func266,Tryz.ntmps266
  go_wp2
  go_loopg [8] (hi - lo) (fun k s8 wr=>∃ (root:Nat) (dk:Array Int) (n:Nat),s8=.int .i64 root∧root≤hi∧hi - root≤k∧dk.size=d.size∧wr=putRow encI (Sort.ahead w n) blk off dk∧siftDown ltInt hi first root dk=siftDown ltInt hi first lo d)
  case atStart=>exact ⟨lo,d,0,rfl,hlo,Nat.le_refl _,rfl,(putRow_self encI w blk off d hH).symm,rfl⟩
  case round =>
    obtain ⟨root,dk,n,rfl,hr,hk,hds,hwr,heq⟩:=hrel
    have hHk:Holds encI wr blk off dk:=by rw [hwr]; exact holds_putRow encI _ blk off d dk (holds_ahead encI w n blk off d hH) hds
    have hcw:∀ t,t < d.size→wr.cell? ⟨blk,off + t,none⟩=some (.int .u32 dk[t]!):=fun t ht=>(hHk t (by omega)).1
    have hfw:∀ t,t < d.size→wr.frozen? ⟨blk,off + t,none⟩=false:=fun t ht=>(hHk t (by omega)).2
    have A:Aside (wr=putRow encI (Sort.ahead w n) blk off dk):=hwr;clear hwr hH hHk
    by_cases h0:hi≤2 * root + 1
    · -- no child: the loop is left
      have h0z:(hi:Int)≤2 * (root:Int) + 1:=by omega
      go_wp2
      go_end0;refine ⟨rfl,n,?_⟩;rw [A.out,← heq,sd_end ltInt dk h0]
    · -- (the tests,AS THE WALK SPELLS THEM: over Int: a guard that is not decided stops the quiet walk)
      have h0z:¬ ((hi:Int)≤2 * (root:Int) + 1):=by omega
      by_cases h1:2 * root + 2 < hi
      · have h1z:2 * (root:Int) + 1 + 1 < (hi:Int):=by omega
        go_wp2_with fail
        go_big_quiet (first | (go_at_call 261; refine Calls.quiet_of_same (SoR.cmp_Less_int _ _ _)))
        go_wp2_with fail
        · -- THE RIGHT CHILD IS THE GREATER
          have hL:ltInt dk[first + 2 * root + 1]! dk[first + 2 * root + 2]! = true:=by assumption
          revert nq; intro nq1      -- (the next quiet region brings an 'nq' of its own)
          have hcw2:∀ t,t < d.size→(wr.drewN nq1).cell? ⟨blk,off + t,none⟩=some (.int .u32 dk[t]!):=hcw;have hfw2:∀ t,t < d.size→(wr.drewN nq1).frozen? ⟨blk,off + t,none⟩=false:=hfw;have A2:Aside (wr.drewN nq1=putRow encI (Sort.ahead w (n + nq1)) blk off dk):=drewN_world encI A.out nq1;clear hcw hfw A;generalize wr.drewN nq1=wr2 at hcw2 hfw2 A2 ⊢
          go_big_quiet (first | (go_at_call 261; refine Calls.quiet_of_same (SoR.cmp_Less_int _ _ _)))
          go_wp2_with fail
          · -- the hole is not less than the greater child: return
            have hS:ltInt dk[first + root]! dk[first + 2 * root + 2]! = false:=by
              have:(!ltInt dk[first + root]! dk[first + 2 * root + 2]!)=true:=by assumption
              simpa using this
            (try simp only [Exit.inBlock,Exit.then]); refine bodyPost_ret (results_none rfl _ _ _) rfl ?_      -- (an explicit 'return' of a function without results)
            refine ⟨rfl,n + nq1 + nq,?_⟩;rw [drewN_world encI A2.out nq,← heq,sd_right_stop ltInt dk h1 hL hS]
          · -- it is: they are swapped,and the hole goes down
            have hG:ltInt dk[first + root]! dk[first + 2 * root + 2]! = true:=by
              have:(!ltInt dk[first + root]! dk[first + 2 * root + 2]!)=false:=by assumption
              simpa using this
            have hcw3:∀ t,t < d.size→(wr2.drewN nq).cell? ⟨blk,off + t,none⟩=some (.int .u32 dk[t]!):=hcw2;have hfw3:∀ t,t < d.size→(wr2.drewN nq).frozen? ⟨blk,off + t,none⟩=false:=hfw2;have A3:Aside (wr2.drewN nq=putRow encI (Sort.ahead w (n + nq1 + nq)) blk off dk):=drewN_world encI A2.out nq;clear hcw2 hfw2 A2;generalize wr2.drewN nq=wr3 at hcw3 hfw3 A3 ⊢
            go_region
            go_wp2
            go_roundg (hi - (2 * root + 2))
            case measure=>omega
            case rel =>
              refine ⟨2 * root + 2,swp dk (first + root) (first + (2 * root + 1 + 1)),n + nq1 + nq + 1,by simp <;> omega,by omega,Nat.le_refl _,by rw [size_swp]; exact hds,swap_world encI (by omega) (by omega) A3.out rfl rfl,?_⟩;rw [← heq,sd_right_go ltInt dk h1 hL hG]
        · -- THE LEFT CHILD IS NOT LESS THAN THE RIGHT
          have hL:ltInt dk[first + 2 * root + 1]! dk[first + 2 * root + 2]! = false:=by assumption
          revert nq; intro nq1      -- (the next quiet region brings an 'nq' of its own)
          have hcw2:∀ t,t < d.size→(wr.drewN nq1).cell? ⟨blk,off + t,none⟩=some (.int .u32 dk[t]!):=hcw;have hfw2:∀ t,t < d.size→(wr.drewN nq1).frozen? ⟨blk,off + t,none⟩=false:=hfw;have A2:Aside (wr.drewN nq1=putRow encI (Sort.ahead w (n + nq1)) blk off dk):=drewN_world encI A.out nq1;clear hcw hfw A;generalize wr.drewN nq1=wr2 at hcw2 hfw2 A2 ⊢
          go_big_quiet (first | (go_at_call 261; refine Calls.quiet_of_same (SoR.cmp_Less_int _ _ _)))
          go_wp2_with fail
          · -- the hole is not less than the greater child: return
            have hS:ltInt dk[first + root]! dk[first + 2 * root + 1]! = false:=by
              have:(!ltInt dk[first + root]! dk[first + 2 * root + 1]!)=true:=by assumption
              simpa using this
            (try simp only [Exit.inBlock,Exit.then]); refine bodyPost_ret (results_none rfl _ _ _) rfl ?_      -- (an explicit 'return' of a function without results)
            refine ⟨rfl,n + nq1 + nq,?_⟩;rw [drewN_world encI A2.out nq,← heq,sd_left_stop ltInt dk (by omega) (fun _=>hL) hS]
          · -- it is: they are swapped,and the hole goes down
            have hG:ltInt dk[first + root]! dk[first + 2 * root + 1]! = true:=by
              have:(!ltInt dk[first + root]! dk[first + 2 * root + 1]!)=false:=by assumption
              simpa using this
            have hcw3:∀ t,t < d.size→(wr2.drewN nq).cell? ⟨blk,off + t,none⟩=some (.int .u32 dk[t]!):=hcw2;have hfw3:∀ t,t < d.size→(wr2.drewN nq).frozen? ⟨blk,off + t,none⟩=false:=hfw2;have A3:Aside (wr2.drewN nq=putRow encI (Sort.ahead w (n + nq1 + nq)) blk off dk):=drewN_world encI A2.out nq;clear hcw2 hfw2 A2;generalize wr2.drewN nq=wr3 at hcw3 hfw3 A3 ⊢
            go_region
            go_wp2
            go_roundg (hi - (2 * root + 1))
            case measure=>omega
            case rel =>
              refine ⟨2 * root + 1,swp dk (first + root) (first + (2 * root + 1)),n + nq1 + nq + 1,by simp <;> omega,by omega,Nat.le_refl _,by rw [size_swp]; exact hds,swap_world encI (by omega) (by omega) A3.out rfl rfl,?_⟩;rw [← heq,sd_left_go ltInt dk (by omega) (fun _=>hL) hG]
      · -- THERE IS NO RIGHT CHILD
        have h1z:decide (2 * (root:Int) + 1 + 1 < (hi:Int))=false:=decide_eq_false (by omega)      -- (a guard that is FALSE: said so outright: from '¬ ..' the walk did not decide it)
        go_wp2_with fail
        go_big_quiet (first | (go_at_call 261; refine Calls.quiet_of_same (SoR.cmp_Less_int _ _ _)))
        go_wp2_with fail
        revert nq; intro nq1      -- (the next quiet region brings an 'nq' of its own)
        have hcw2:∀ t,t < d.size→(wr.drewN nq1).cell? ⟨blk,off + t,none⟩=some (.int .u32 dk[t]!):=hcw;have hfw2:∀ t,t < d.size→(wr.drewN nq1).frozen? ⟨blk,off + t,none⟩=false:=hfw;have A2:Aside (wr.drewN nq1=putRow encI (Sort.ahead w (n + nq1)) blk off dk):=drewN_world encI A.out nq1;clear hcw hfw A;generalize wr.drewN nq1=wr2 at hcw2 hfw2 A2 ⊢
        go_big_quiet (first | (go_at_call 261; refine Calls.quiet_of_same (SoR.cmp_Less_int _ _ _)))
        go_wp2_with fail
        · -- the hole is not less than the greater child: return
          have hS:ltInt dk[first + root]! dk[first + 2 * root + 1]! = false:=by
            have:(!ltInt dk[first + root]! dk[first + 2 * root + 1]!)=true:=by assumption
            simpa using this
          (try simp only [Exit.inBlock,Exit.then]); refine bodyPost_ret (results_none rfl _ _ _) rfl ?_      -- (an explicit 'return' of a function without results)
          refine ⟨rfl,n + nq1 + nq,?_⟩;rw [drewN_world encI A2.out nq,← heq,sd_left_stop ltInt dk (by omega) (fun h=>absurd h h1) hS]
        · -- it is: they are swapped,and the hole goes down
          have hG:ltInt dk[first + root]! dk[first + 2 * root + 1]! = true:=by
            have:(!ltInt dk[first + root]! dk[first + 2 * root + 1]!)=false:=by assumption
            simpa using this
          have hcw3:∀ t,t < d.size→(wr2.drewN nq).cell? ⟨blk,off + t,none⟩=some (.int .u32 dk[t]!):=hcw2;have hfw3:∀ t,t < d.size→(wr2.drewN nq).frozen? ⟨blk,off + t,none⟩=false:=hfw2;have A3:Aside (wr2.drewN nq=putRow encI (Sort.ahead w (n + nq1 + nq)) blk off dk):=drewN_world encI A2.out nq;clear hcw2 hfw2 A2;generalize wr2.drewN nq=wr3 at hcw3 hfw3 A3 ⊢
          go_region
          go_wp2
          go_roundg (hi - (2 * root + 1))
          case measure=>omega
          case rel =>
            refine ⟨2 * root + 1,swp dk (first + root) (first + (2 * root + 1)),n + nq1 + nq + 1,by simp <;> omega,by omega,Nat.le_refl _,by rw [size_swp]; exact hds,swap_world encI (by omega) (by omega) A3.out rfl rfl,?_⟩;rw [← heq,sd_left_go ltInt dk (by omega) (fun h=>absurd h h1) hG]
end Go.Proofs.YtpfafhmkbcahhaaGreat.Srt
namespace Go.Sort
variable {α : Type} [Inhabited α] (lt:α→α→Bool)
theorem size_siftDown (hi F:Nat):∀ (n root:Nat) (d:Array α),hi - root≤n→(siftDown lt hi F root d).size=d.size:=by
  intro n
  induction n with
  | zero=>intro root d h; rw [siftDown,dif_pos (by omega)]
  | succ n ih =>
    intro root d h
    rw [siftDown];split
    · rfl
    · split
      · split
        · rfl
        · split
          · rw [ih _ _ (by omega),size_swp]
          · rfl
      · split
        · rfl
        · rw [ih _ _ (by omega),size_swp]
end Go.Sort
namespace Go.Proofs.YtpfafhmkbcahhaaGreat.Srt
open Go.Sort Go.RowKit
theorem half_start {a b:Nat} (hab:a≤b):((b:Int) - (a:Int) - 1).tdiv 2=(((b - a - 1) / 2 + 1:Nat):Int) - 1:=by
  by_cases h:a=b
  · subst h
    have:((a:Int) - (a:Int) - 1)=-1:=by omega
    rw [this];simp
  · rw [Int.tdiv_eq_ediv_of_nonneg (by omega)]
    omega
set_option maxHeartbeats 3200000 in
set_option maxRecDepth 1000000 in
theorem SoR.heapSort_int (blk off len cap:Nat) (d:Array Int) (hlen:d.size=len) (a b:Nat) (w:World) (hH:Holds encI w blk off d) (hab:a≤b) (hb:b≤d.size) (hsz:d.size < 4611686018427387904) :
    Calls Tryz.prog 256 #[.slice (some ⟨blk,off,none⟩) len cap,.int .i64 a,.int .i64 b] w fun e w'=>e=.returned (.tuple #[])∧∃ n,w'=putRow encI (Sort.ahead w n) blk off (heapSort ltInt d a b):=by
  subst hlen
  have ecast:((b - a:Nat):Int)=(b:Int) - (a:Int):=by omega
  go_enter Tryz.func256,Tryz.ntmps256
  go_wp2
  go_loopg [9] ((b - a - 1) / 2 + 1) (fun k s9 wr=>s9=.int .i64 ((k:Int) - 1)∧k≤(b - a - 1) / 2 + 1∧∃ (dk:Array Int) (n:Nat),dk.size=d.size∧wr=putRow encI (Sort.ahead w n) blk off dk ∧
    heapBuild ltInt (b - a) a k dk=heapBuild ltInt (b - a) a ((b - a - 1) / 2 + 1) d)
  case atStart=>exact ⟨by rw [half_start hab],Nat.le_refl _,d,0,rfl,(putRow_self encI w blk off d hH).symm,rfl⟩
  case round =>
    obtain ⟨rfl,hkk,dk,n,hds,hwr,heq⟩:=hrel
    have hHk:Holds encI wr blk off dk:=by rw [hwr]; exact holds_putRow encI _ blk off d dk (holds_ahead encI w n blk off d hH) hds
    have A:Aside (wr=putRow encI (Sort.ahead w n) blk off dk):=hwr;clear hwr
    cases gk with
    | zero =>
      have hB:dk=heapBuild ltInt (b - a) a ((b - a - 1) / 2 + 1) d:=heq;clear heq hHk hkk
      go_wp2
      go_loopg [10] (b - a) (fun k s10 wr2=>s10=.int .i64 ((k:Int) - 1)∧k≤b - a∧∃ (dj:Array Int) (n2:Nat),dj.size=d.size∧wr2=putRow encI (Sort.ahead w n2) blk off dj∧heapPop ltInt a k dj=heapPop ltInt a (b - a) dk)
      case atStart=>exact ⟨by rw [ecast],Nat.le_refl _,dk,n,hds,A.out,rfl⟩
      case round =>
        obtain ⟨rfl,hkk,dj,n2,hdj,hwr2,heq2⟩:=hrel
        cases gk with
        | zero =>
          go_wp2
          go_end0;refine ⟨rfl,n2,?_⟩
          have e:dj=heapSort ltInt d a b:=by rw [heapSort,← hB,← heq2]; rfl
          rw [← e]
        | succ k =>
          have hHj:Holds encI wr blk off dj:=by rw [hwr2]; exact holds_putRow encI _ blk off d dj (holds_ahead encI w n2 blk off d hH) hdj
          have hcw:∀ t,t < d.size→wr.cell? ⟨blk,off + t,none⟩=some (.int .u32 dj[t]!):=fun t ht=>(hHj t (by omega)).1
          have hfw:∀ t,t < d.size→wr.frozen? ⟨blk,off + t,none⟩=false:=fun t ht=>(hHj t (by omega)).2
          have A2:Aside (wr=putRow encI (Sort.ahead w n2) blk off dj):=hwr2;clear hwr2 hHj
          rcases Nat.eq_zero_or_pos k with hk0 | hkp
          · subst hk0
            go_wp2_with fail
            go_region
            go_wp2_with fail;rw [swap_world encI (i:=a) (j:=a) (by omega) (by omega) A2.out rfl rfl];refine (SoR.siftDown_int blk off d.size cap (swp dj a (a)) (by rw [size_swp]; exact hdj) 0 0 a _ (holds_putRow encI _ blk off d _ (holds_ahead encI w (n2 + 1) blk off d hH) (by rw [size_swp]; exact hdj)) (Nat.zero_le _) (by rw [size_swp]; omega) (by rw [size_swp]; omega)).mono ?_;rintro e w1 ⟨rfl,m,hw1⟩
            go_wp2
            go_roundg 0
            case measure=>omega
            case rel =>
              refine ⟨by simp,by omega,siftDown ltInt 0 a 0 (swp dj a (a)),n2 + 1 + m,by rw [size_siftDown ltInt _ _ _ _ _ (Nat.le_refl _),size_swp]; exact hdj,?_,heq2⟩
              first
                | rw [hw1,putRow_ahead_putRow encI w (n2 + 1) m blk off _ _ (size_siftDown ltInt _ _ _ _ _ (Nat.le_refl _))]
                | rw [putRow_ahead_putRow encI w (n2 + 1) m blk off _ _ (size_siftDown ltInt _ _ _ _ _ (Nat.le_refl _))]
          · skip
            go_wp2_with fail
            go_region
            go_wp2_with fail;rw [swap_world encI (i:=a) (j:=a + k) (by omega) (by omega) A2.out rfl rfl];refine (SoR.siftDown_int blk off d.size cap (swp dj a (a + k)) (by rw [size_swp]; exact hdj) 0 k a _ (holds_putRow encI _ blk off d _ (holds_ahead encI w (n2 + 1) blk off d hH) (by rw [size_swp]; exact hdj)) (Nat.zero_le _) (by rw [size_swp]; omega) (by rw [size_swp]; omega)).mono ?_;rintro e w1 ⟨rfl,m,hw1⟩
            go_wp2
            go_roundg k
            case measure=>omega
            case rel =>
              refine ⟨by simp,by omega,siftDown ltInt k a 0 (swp dj a (a + k)),n2 + 1 + m,by rw [size_siftDown ltInt _ _ _ _ _ (Nat.le_refl _),size_swp]; exact hdj,?_,heq2⟩
              first
                | rw [hw1,putRow_ahead_putRow encI w (n2 + 1) m blk off _ _ (size_siftDown ltInt _ _ _ _ _ (Nat.le_refl _))]
                | rw [putRow_ahead_putRow encI w (n2 + 1) m blk off _ _ (size_siftDown ltInt _ _ _ _ _ (Nat.le_refl _))]
    | succ k =>
      have hcall:=SoR.siftDown_int blk off d.size cap dk hds k (b - a) a wr hHk (by omega) (by omega) (by omega);rw [ecast] at hcall
      go_wp2_with (go_at_call 266; refine hcall.mono ?_; rintro e w1 ⟨rfl,m,hw1⟩)
      go_roundg k
      case measure=>omega
      case rel =>
        refine ⟨by simp,by omega,siftDown ltInt (b - a) a k dk,n + m,by rw [size_siftDown ltInt _ _ _ _ _ (Nat.le_refl _)]; exact hds,?_,heq⟩;rw [A.out,putRow_ahead_putRow encI w n m blk off dk _ (size_siftDown ltInt _ _ _ _ _ (Nat.le_refl _))]
end Go.Proofs.YtpfafhmkbcahhaaGreat.Srt
