import Derived.Test.YtpfafhmkbcahhaaGreatPT27
set_option maxRecDepth 100000
namespace Go.Proofs.YtpfafhmkbcahhaaGreat
open Go.RowKit Go.Maps Go.ChangeMaps Go.WideShapes
theorem lvl_ne {o:List Nat} {v i:Nat} (h:i<o.idxOf v):o[i]?≠some v:=by
 intro e
 have h1:i<o.length:=(List.getElem?_eq_some_iff.1 e).1;have h2:=List.not_of_lt_findIdx (xs:=o) (p:=(· == v)) (i:=i) (by unfold List.idxOf at h;exact h);rw [List.getElem?_eq_getElem h1] at e
 simp only [Option.some.injEq] at e
 simp [e] at h2
theorem mlevel_spec (m v:Nat) (M:MV) (p:MPtr) (Z:List Nat) (w:World) (h:ModIn w m M p Z) (hv:v∈M.order) (ho:M.order.length<=64) :
  Calls Tryz.prog 76 #[.pointer (some ⟨m,0,none⟩),.int .i64 v] w fun e w'=>e=.returned (.int .i64 (M.lvl v))/\w'=w:=by
 obtain ⟨h1,h2⟩:=MV.lvl_at hv;have hos:=h.os;obtain ⟨oa,oc,hov,_⟩:=row_nil_len hos;rw [hov] at hos;obtain ⟨g,rfl⟩:=row_some hos (by omega);obtain ⟨_,_,c2,_,_⟩:=h.cells;rw [hov] at c2;have HOS:=Lib.hid hos
 have HNE:Hid (∀ i,i<M.lvl v->M.order[i]?≠some v):=fun i hi=>lvl_ne hi
 have HAT:=Lib.hid h2;generalize M.lvl v=L at *;clear h hos hov h2 hv
 go_enter Tryz.func76,Tryz.ntmps76
 go_wp2_with fail
 go_loopg [12] (L:Nat) (fun gg s12 wr=>∃ i:Nat,L-i=gg/\i<=L/\s12=.int .i64 i/\wr=w)
 case atStart=>exact ⟨0,by omega,by omega,rfl,rfl⟩
 case round =>
  obtain ⟨i,rfl,hi,rfl,rfl⟩:=hrel
  have hil:(i:Int)<(M.order.length:Int):=by omega
  obtain ⟨x,hx⟩ : ∃ x,M.order[i]?=some x:=⟨_,List.getElem?_eq_getElem (by omega)⟩;have cx:=row_cell HOS.out (j:=i) (u:=.int .i64 x) (by simp [flatN,hx])
  by_cases e:i=L
  ·subst e
   rw [HAT.out] at hx;cases hx;go_wp2_with fail;go_ret;exact ⟨rfl,rfl⟩
  ·have hne:¬ (x:Int)=(v:Int):=fun e2=>HNE.out i (by omega) (by rw [hx];congr 1;omega)
   have hne2:((x:Int) == (v:Int))=false:=by simpa using hne
   clear hx;go_wp2_with fail
   go_roundg (L-(i+1))
   case measure=>omega
   case rel=>exact ⟨i+1,rfl,by omega,by simp,rfl⟩
theorem mlive_spec (m:Nat) (M:MV) (p:MPtr) (Z:List Nat) (w:World) (h:ModIn w m M p Z) (hZ:∀ k,k∈Z->k<w.heap.size) (hf:M.Fit) :
  Calls Tryz.prog 77 #[.pointer (some ⟨m,0,none⟩)] w fun e w'=>e=.returned (.int .i64 M.live)/\Upd [] w w':=by
 have HTB:=Lib.hid (tables_spec m M p Z w h hZ (by have:=hf.hl;omega))
 have HSZ:Hid (∀ (x:World) (n0:Nat) (v:Value),Upd [] w x->TLs x n0 Z v M.tabs->Calls Tryz.prog 164 #[.pointer (some ⟨m,0,none⟩),v] x fun e w'=>e=.returned (.int .i64 M.live)/\Upd [] x w'):=fun x n0 v u hv =>
  msize_spec m n0 M p Z v M.tabs x (h.keep0 u) (fun k hk=>Nat.lt_of_lt_of_le (hZ k hk) u.size) hf hv (fun t ht=>(hf.tn t ht).2) (by have:=hf.tl;omega)
 generalize M.live=L at *;clear h hZ hf
 go_enter Tryz.func77,Tryz.ntmps77
 go_wp2_with fail;refine HTB.out.mono ?_;rintro e w1 hE;obtain ⟨v,rfl,hT,hu⟩:=hE.ex;have HT:=Lib.hid (And.intro hT hu);clear hE hT hu HTB;go_wp2_with fail;refine (HSZ.out _ _ _ HT.out.2 HT.out.1).mono ?_;rintro e w2 ⟨rfl,hu⟩;have HU:=Lib.hid (HT.out.2.trans hu);clear hu HSZ;go_wp2_with fail;go_ret;exact ⟨rfl,HU.out⟩
end Go.Proofs.YtpfafhmkbcahhaaGreat
