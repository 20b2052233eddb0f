import Derived.Test.YtpfafhmkbcahhaaGreatPT30
import Derived.Test.YtpfafhmkbcahhaaGreatPT41
namespace Go.Proofs.YtpfafhmkbcahhaaGreat
open Go.RowKit Go.Maps Go.ChangeMaps Go.WideShapes
def MV.oneS (M:MV) (v g:Int):Nat:=if M.oneE v g=0 then (M.oneD (M.lvl v.toNat) g.toNat).sw else 0
theorem MV.oneR_sw (M:MV) (v g:Int):∃ x y:Nat,M.oneR v g=#[.int .i64 x,.int .i64 y,.int .i64 (M.oneS v g:Nat),.bool false]:=by
 unfold MV.oneR MV.oneS;split
 ·exact ⟨_,_,rfl⟩
 ·exact ⟨0,0,rfl⟩
theorem MV.one_same (M:MV) (v g:Int):(M.one v g).n=M.n/\(M.one v g).c=M.c/\(M.one v g).held=M.held/\(M.order.length=M.n->(M.one v g).order.length=M.n):=by
 unfold MV.one;split
 ·unfold MV.oneD
  simp only
  split
  ·obtain ⟨h1,h2,h3⟩:=M.goS_n (M.lvl v.toNat) (!decide (M.n-1-M.lvl v.toNat<=M.lvl v.toNat)) (M.runD (M.lvl v.toNat) (!decide (M.n-1-M.lvl v.toNat<=M.lvl v.toNat)) g.toNat (distD M.n (M.lvl v.toNat) (!decide (M.n-1-M.lvl v.toNat<=M.lvl v.toNat))) 0 (M.runD (M.lvl v.toNat) (decide (M.n-1-M.lvl v.toNat<=M.lvl v.toNat)) g.toNat (distD M.n (M.lvl v.toNat) (decide (M.n-1-M.lvl v.toNat<=M.lvl v.toNat))) 0 M.live 0).2.1 0).2.2
   exact ⟨h1,h2,h3,fun h=>(MV.goS_len h _ _ _).trans h1⟩
  ·obtain ⟨h1,h2,h3⟩:=M.goS_n (M.lvl v.toNat) (decide (M.n-1-M.lvl v.toNat<=M.lvl v.toNat)) (M.runD (M.lvl v.toNat) (decide (M.n-1-M.lvl v.toNat<=M.lvl v.toNat)) g.toNat (distD M.n (M.lvl v.toNat) (decide (M.n-1-M.lvl v.toNat<=M.lvl v.toNat))) 0 M.live 0).2.2
   exact ⟨h1,h2,h3,fun h=>(MV.goS_len h _ _ _).trans h1⟩
 ·exact ⟨rfl,rfl,rfl,id⟩
theorem MV.one_tr (M:MV) (hn:M.n<=6) (hl:M.order.length<=6) (v g:Int):(M.one v g).trail.length<=M.trail.length+6/\M.oneS v g<=64:=by
 have hp:M.lvl v.toNat<=6:=Nat.le_trans List.idxOf_le_length hl;unfold MV.one MV.oneS;generalize M.lvl v.toNat=p at *
 have hd:∀ d,distD M.n p d<=6:=fun d=>by unfold distD;split <;> omega
 split
 ·unfold MV.oneD
  obtain ⟨dn,hdn⟩ : ∃ dn,decide (M.n-1-p<=p)=dn:=⟨_,rfl⟩
  simp only [hdn]
  have f1:=M.runD_f p dn g.toNat (distD M.n p dn) 0 M.live 0;have f2:=M.runD_f p (!dn) g.toNat (distD M.n p (!dn)) 0 (M.runD p dn g.toNat (distD M.n p dn) 0 M.live 0).2.1 0;have h1:=hd dn;have h2:=hd (!dn);have a1:=f1.hi;have a2:=f2.hi;have a3:=f1.bj (Nat.le_refl _);have a4:=f2.bj (Nat.le_refl _);split
  ·have:=M.goS_trail p (!dn) (M.runD p (!dn) g.toNat (distD M.n p (!dn)) 0 (M.runD p dn g.toNat (distD M.n p dn) 0 M.live 0).2.1 0).2.2
   refine ⟨?_,?_⟩
   ·show (M.goS p (!dn) _).trail.length<=_
    omega
   ·show 2*_+(2*_-_)<=64
    omega
  ·have:=M.goS_trail p dn (M.runD p dn g.toNat (distD M.n p dn) 0 M.live 0).2.2
   refine ⟨?_,?_⟩
   ·show (M.goS p dn _).trail.length<=_
    omega
   ·show 2*_+2*_+_<=64
    omega
 ·omega
structure AllV where
 M:MV
 sw:Nat
def allStep (g:Int) (A:AllV) (v:Nat):AllV:=⟨A.M.one v g,A.sw+A.M.oneS v g⟩
def MV.allF (M:MV) (g:Int) (L:List Nat):AllV:=L.foldl (allStep g) ⟨M,0⟩
theorem MV.allF_snoc (M:MV) (g:Int) (L:List Nat) (v:Nat):M.allF g (L++[v])=allStep g (M.allF g L) v:=by simp [MV.allF]
theorem MV.allF_take {M:MV} {g:Int} {L:List Nat} {i v:Nat} (h:L[i]?=some v):M.allF g (L.take (i+1))=allStep g (M.allF g (L.take i)) v:=by
 rw [List.take_add_one,h];exact MV.allF_snoc M g _ v
structure AllOk (M:MV) (A:AllV) (i:Nat):Prop where
 n:A.M.n=M.n
 c:A.M.c=M.c
 held:A.M.held=M.held
 ol:A.M.order.length=M.n
 tr:A.M.trail.length<=M.trail.length+6*i
 sw:A.sw<=64*i
theorem AllOk.step {M:MV} {A:AllV} {i:Nat} (h:AllOk M A i) (hn:M.n<=6) (g:Int) (v:Nat):AllOk M (allStep g A v) (i+1):=by
 obtain ⟨h1,h2,h3,h4⟩:=A.M.one_same v g;obtain ⟨h5,h6⟩:=A.M.one_tr (by rw [h.n];exact hn) (by rw [h.ol];exact hn) v g;have h7:=h.tr;have h8:=h.sw;exact ⟨h1.trans h.n,h2.trans h.c,h3.trans h.held,(h4 (h.ol.trans h.n.symm)).trans h.n,by show (A.M.one v g).trail.length<=_;omega,by show A.sw+A.M.oneS v g<=_;omega⟩
theorem foldl_ok {M:MV} (hn:M.n<=6) (g:Int):∀ (L:List Nat) (A:AllV) (i:Nat),AllOk M A i->AllOk M (L.foldl (allStep g) A) (i+L.length)
 | [],_,_,h=>h
 | v::L,A,i,h=>by
  have:=foldl_ok hn g L _ _ (h.step hn g v);rw [List.foldl_cons,List.length_cons]
  rwa [show i+(L.length+1)=i+1+L.length by omega]
theorem MV.allF_ok {M:MV} (hn:M.n<=6) (hl:M.order.length=M.n) (g:Int) (L:List Nat):AllOk M (M.allF g L) L.length:=by
 have:=foldl_ok hn g L ⟨M,0⟩ 0 ⟨rfl,rfl,rfl,hl,Nat.le_refl _,Nat.le_refl _⟩
 rwa [Nat.zero_add] at this
theorem MV.one_good {M:MV} (h:M.Good) (v g:Int):(M.one v g).Good:=by
 unfold MV.one;split
 ·unfold MV.oneD
  simp only
  split
  ·exact h.goS _ _ _
  ·exact h.goS _ _ _
 ·exact h
theorem foldl_good (g:Int):∀ (L:List Nat) (A:AllV),A.M.Good->(L.foldl (allStep g) A).M.Good
 | [],_,h=>h
 | v::L,_,h=>foldl_good g L _ (MV.one_good h v g)
theorem MV.allF_good {M:MV} (h:M.Good) (g:Int) (L:List Nat):(M.allF g L).M.Good:=foldl_good g L ⟨M,0⟩ h
abbrev repV (a b s:Nat):Array Value:=#[.int .i64 a,.int .i64 b,.int .i64 s,.bool false]
end Go.Proofs.YtpfafhmkbcahhaaGreat
