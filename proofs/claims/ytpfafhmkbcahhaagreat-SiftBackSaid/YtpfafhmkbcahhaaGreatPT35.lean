import Derived.Test.YtpfafhmkbcahhaaGreatPT34
import Derived.Test.YtpfafhmkbcahhaaGreatPT30
set_option maxRecDepth 100000
set_option maxHeartbeats 1600000
namespace Go.Proofs.YtpfafhmkbcahhaaGreat
open Go.RowKit Go.Maps Go.ChangeMaps Go.WideShapes
theorem turnL_nodup {o:List Nat} {l:Nat} (hl:l+1<o.length) (h:o.Nodup):(turnL o l).Nodup:=by
 have hp:(turnL o l).Perm o:=by
  unfold turnL
  have e0:o.getD l 0=o[l]:=by rw [List.getD_eq_getElem?_getD,List.getElem?_eq_getElem (by omega)];rfl
  have e1:o.getD (l+1) 0=o[l+1]:=by rw [List.getD_eq_getElem?_getD,List.getElem?_eq_getElem hl];rfl
  rw [e0,e1];exact List.set_set_perm (by omega) hl
 exact hp.nodup_iff.2 h
structure MV.Good (M:MV):Prop where
 len:M.order.length=M.n
 fit:M.Fit
 nd:M.order.Nodup
theorem MV.Good.exch {M:MV} (h:M.Good) (l:Int):(M.exch l).Good:=by
 by_cases he:M.exchE l=0
 ·obtain ⟨h0,h1,_,e⟩:=MV.exch_yes he
  rw [e]
  have hl:l.toNat+1<M.order.length:=by rw [h.len];omega
  exact ⟨by show (turnL _ _).length=M.n;rw [turnL_len];exact h.len,h.fit.exch hl _,turnL_nodup hl h.nd⟩
 ·rw [MV.exch_no he];exact h
theorem MV.Good.goS {M:MV} (h:M.Good) (p:Nat) (down:Bool):∀ j,(M.goS p down j).Good
 | 0=>h
 | j+1=>(MV.Good.goS h p down j).exch _
theorem idx_at {o:List Nat} {i v:Nat} (hn:o.Nodup) (h:o[i]?=some v):o.idxOf v=i:=by
 have hi:i<o.length:=(List.getElem?_eq_some_iff.1 h).1;have he:o[i]=v:=(List.getElem?_eq_some_iff.1 h).2;rw [<- he];exact hn.idxOf_getElem i hi
theorem MV.Good.lvl {M:MV} (h:M.Good) {p v j:Nat} {down:Bool} (hv:M.order[p]?=some v) (hok:M.okD p down j) (hj:j<=distD M.n p down):v∈(M.goS p down j).order/\(M.goS p down j).lvl v=posD p down j:=by
 have h1:=MV.goS_at hv h.len j hok hj;exact ⟨List.mem_of_getElem? h1,idx_at (h.goS p down j).nd h1⟩
abbrev rfC (m v sw best at_:Nat) (side:Int):Array Value:=#[.pointer (some ⟨m,0,none⟩),.int .i64 v,.int .i64 sw,.int .i64 best,.int .i64 at_,.int .i64 side]
def sgn (down:Bool):Int:=if down then 1 else -1
structure RfS (w0:World) (m xb:Nat) (p0:MPtr) (Z:List Nat) (M:MV) (C:Array Value) (w:World):Prop where
 ex:∃ p,ModIn w m M p (Z++p.all m)/\Upd (xb::p0.all m) w0 w/\Sub (p0.all m) w0 (p.all m)
 blk:w.heap[xb]?=some (.cells C 139 (0,0))
 hZ:∀ k,k∈Z->k<w0.heap.size
 xZ:xb∈Z
theorem ModIn.not_sift {w:World} {m xb:Nat} {M:MV} {p:MPtr} {Z:List Nat} {C:Array Value} (h:ModIn w m M p Z) (hb:w.heap[xb]?=some (.cells C 139 (0,0))):xb∉p.all m:=by
 have key:∀ (e:TypeId),e≠139->(∃ cs fr,w.heap[xb]?=some (.cells cs e fr))->False:=by
  rintro e he ⟨cs,fr,h1⟩;rw [hb] at h1
  injection h1 with h1
  injection h1 with _ h1 _
  exact he h1.symm
 intro hk
 rcases MPtr.mem.1 hk with rfl | h1 | h1 | h1
 ·exact key _ (by decide) ⟨_,_,h.blk⟩
 ·exact key _ (by decide) (row_type h.os h1)
 ·obtain ⟨xs,hr⟩:=h.hs.row
  exact key _ (by decide) (row_type hr h1)
 ·exact key _ (by decide) (row_type h.ts h1)
theorem RfS.keep {w0 w w':World} {m xb:Nat} {p0:MPtr} {Z:List Nat} {M:MV} {C:Array Value} (h:RfS w0 m xb p0 Z M C w) (u:Upd [] w w'):RfS w0 m xb p0 Z M C w':=by
 obtain ⟨p,a1,a2,a3⟩:=h.ex;exact ⟨⟨p,a1.keep0 u,a2.trans (u.mono (by simp)),a3⟩,(u.block _ (heap_lt h.blk) (by simp)).trans h.blk,h.hZ,h.xZ⟩
theorem RfS.cell {w0 w:World} {m xb j:Nat} {p0:MPtr} {Z:List Nat} {M:MV} {C:Array Value} {v:Value} (h:RfS w0 m xb p0 Z M C w):RfS w0 m xb p0 Z M (C.setIfInBounds j v) (w.setCell ⟨xb,j,none⟩ v):=by
 obtain ⟨p,a1,a2,a3⟩:=h.ex;have hx:=a1.not_sift h.blk;have u:Upd [xb] w (w.setCell ⟨xb,j,none⟩ v):=(Upd.refl _ w).setCell (p:=⟨xb,j,none⟩) (.inl (by simp)) _;exact ⟨⟨p,a1.keep u (fun k hk=>.inl (by simp at hk;subst hk;exact List.mem_append.2 (.inl h.xZ))) (fun k hk hm=>by simp at hm;subst hm;exact hx hk),a2.trans (u.mono (by simp)),a3⟩,heap_set_eq h.blk _,h.hZ,h.xZ⟩
theorem RfS.call {w0 w w':World} {m xb:Nat} {p0:MPtr} {Z:List Nat} {M M':MV} {C:Array Value} (h:RfS w0 m xb p0 Z M C w) (k:∀ p,ModIn w m M p (Z++p.all m)->ModE m p (Z++p.all m) M' w w'):RfS w0 m xb p0 Z M' C w':=by
 obtain ⟨p,a1,a2,a3⟩:=h.ex;obtain ⟨p',b1,b2,b3⟩:=(k p a1).ex;have hx:=a1.not_sift h.blk;refine ⟨⟨p',b1.apart (fun k hk=>.inl ?_) (fun k hk=>List.mem_append.2 (.inr hk)),a2.then b2 (fun k hk=>?_),fun k hk=>?_⟩,(b2.block xb (heap_lt h.blk) hx).trans h.blk,h.hZ,h.xZ⟩
 ·rcases List.mem_append.1 hk with h | h
  ·exact List.mem_append.2 (.inl (List.mem_append.2 (.inl h)))
  ·exact List.mem_append.2 (.inr h)
 ·rcases a3 k hk with h | h
  ·exact .inl (by simp [h])
  ·exact .inr h
 ·rcases b3 k hk with h | h
  ·exact a3 k h
  ·right;have:=a2.size;omega
theorem RfS.zlt {w0 w:World} {m xb:Nat} {p0:MPtr} {Z:List Nat} {M:MV} {C:Array Value} (h:RfS w0 m xb p0 Z M C w) {p:MPtr} (a:ModIn w m M p (Z++p.all m)):∀ k,k∈Z++p.all m->k<w.heap.size:=fun k hk=>by
 obtain ⟨_,_,a2,_⟩:=h.ex
 rcases List.mem_append.1 hk with hk | hk
 ·exact Nat.lt_of_lt_of_le (h.hZ k hk) a2.size
 ·exact a.lt k hk
theorem RfS.level {w0 w:World} {m xb v:Nat} {p0:MPtr} {Z:List Nat} {M:MV} {C:Array Value} (h:RfS w0 m xb p0 Z M C w) (hg:M.Good) (hv:v∈M.order) :
  ∀ z,Upd [] w z->Calls Tryz.prog 76 #[.pointer (some ⟨m,0,none⟩),.int .i64 v] z fun e w'=>e=.returned (.int .i64 (M.lvl v))/\w'=z:=fun z u=>by
 obtain ⟨p,a1,_⟩:=(h.keep u).ex;exact mlevel_spec m v M p _ z a1 hv (by have:=hg.fit.ol;omega)
theorem RfS.live {w0 w:World} {m xb:Nat} {p0:MPtr} {Z:List Nat} {M:MV} {C:Array Value} (h:RfS w0 m xb p0 Z M C w) (hg:M.Good) :
  ∀ z,Upd [] w z->Calls Tryz.prog 77 #[.pointer (some ⟨m,0,none⟩)] z fun e w'=>e=.returned (.int .i64 M.live)/\Upd [] z w':=fun z u=>by
 have hz:=h.keep u;obtain ⟨p,a1,_⟩:=hz.ex;exact mlive_spec m M p _ z a1 (hz.zlt a1) hg.fit
theorem RfS.exch {w0 w:World} {m xb:Nat} {p0:MPtr} {Z:List Nat} {M:MV} {C:Array Value} (h:RfS w0 m xb p0 Z M C w) (hg:M.Good) (ht:M.trail.length<=1000000) (l:Int) :
  ∀ z,Upd [] w z->Calls Tryz.prog 66 #[.pointer (some ⟨m,0,none⟩),.int .i64 l] z fun e w'=>e=.returned (.int .i64 (M.exchE l))/\RfS w0 m xb p0 Z (M.exch l) C w':=fun z u=>by
 have hz:=h.keep u;obtain ⟨p,a1,_⟩:=hz.ex;refine (exch9_spec m M p _ l z a1 (hz.zlt a1) hg.fit hg.len ht).mono ?_;rintro e w' hQ;refine ⟨hQ.ex.1,hz.call fun p' a'=>?_⟩
 have:p'=p:=by
  have e1:=a'.blk;rw [a1.blk] at e1
  cases p;cases p'
  simp at e1
  simp [e1]
 rw [this];exact hQ.ex.2
def lastB (n p j:Nat) (down:Bool):Bool:=decide (posD p down j=if down then n-1 else 0)
theorem last_spec (w0:World) (m xb v:Nat) (p0:MPtr) (Z:List Nat) (M:MV) (p j:Nat) (down:Bool) (sw best at_:Nat) (side:Int) (w:World) (h:RfS w0 m xb p0 Z (M.goS p down j) (rfC m v sw best at_ side) w)
  (hg:M.Good) (hv:M.order[p]?=some v) (hok:M.okD p down j) (hj:j<=distD M.n p down) :
  Calls Tryz.prog 166 #[.pointer (some ⟨xb,0,none⟩),.int .i64 (sgn down)] w fun e w'=>e=.returned (.bool (lastB M.n p j down))/\Upd [] w w':=by
 obtain ⟨l1,l2⟩:=hg.lvl hv hok hj;have hn:=(M.goS_n p down j).1;have hn6:=hg.fit.n6;obtain ⟨q,a1,_⟩:=h.ex;obtain ⟨d0,_⟩:=a1.cells;rw [hn] at d0
 have HD0:Hid (∀ z,Upd [] w z->z.cell? ⟨m,0,none⟩=some (.int .i64 M.n)):=fun z u=>u.cell0 d0
 have c0:w.cell? ⟨xb,0,none⟩=some (.pointer (some ⟨m,0,none⟩)):=cell_at h.blk rfl;have c1:w.cell? ⟨xb,1,none⟩=some (.int .i64 v):=cell_at h.blk rfl;have HLV:=Lib.hid (h.level (hg.goS p down j) l1);rw [l2] at HLV
 have hp:p<M.n:=by rw [<- hg.len];exact (List.getElem?_eq_some_iff.1 hv).1
 have hw1:IntKind.i64.wrap ((M.n:Int)-1)=((M.n:Int)-1):=IntWalk.i64_in _ (by omega);obtain ⟨P,hP⟩ : ∃ P,posD p down j=P:=⟨_,rfl⟩
 have HB:Hid (lastB M.n p j down=decide (P=if down then M.n-1 else 0)):=by show _=_;unfold lastB;rw [hP]
 rw [hP] at HLV;obtain ⟨B,hB⟩ : ∃ B,lastB M.n p j down=B:=⟨_,rfl⟩;rw [hB] at HB ⊢;clear h hg hv hok hj l1 l2 hn a1 hP hB
 cases down with
 | true =>
  have HB2:Hid (decide ((P:Int)=(M.n:Int)-1)=B):=by
   show _=_
   rw [HB.out,if_pos rfl];exact decide_eq_decide.2 (by omega)
  unfold sgn
  by_cases hB:(P:Int)=(M.n:Int)-1
  ·obtain rfl:B=true:=by rw [<- HB2.out];exact decide_eq_true hB
   go_enter Tryz.func166,Tryz.ntmps166
   go_wp2_with fail
   go_quiet ((go_at_call 76;exact Calls.quiet_of_same (HLV.out _ ((Upd.refl [] w).drewN _))))
   go_wp2_with fail;go_ret;exact ⟨rfl,(Upd.refl _ _).drewN _⟩
  ·obtain rfl:B=false:=by rw [<- HB2.out];exact decide_eq_false hB
   have hB2:((P:Int) == (M.n:Int)-1)=false:=by simpa using hB
   go_enter Tryz.func166,Tryz.ntmps166
   go_wp2_with fail
   go_quiet ((go_at_call 76;exact Calls.quiet_of_same (HLV.out _ ((Upd.refl [] w).drewN _))))
   go_wp2_with fail;go_ret;exact ⟨rfl,(Upd.refl _ _).drewN _⟩
 | false =>
  have HB2:Hid (decide ((P:Int)=0)=B):=by
   show _=_
   rw [HB.out,if_neg (by decide)];exact decide_eq_decide.2 (by omega)
  unfold sgn
  by_cases hB:(P:Int)=0
  ·obtain rfl:B=true:=by rw [<- HB2.out];exact decide_eq_true hB
   go_enter Tryz.func166,Tryz.ntmps166
   go_wp2_with fail
   go_quiet ((go_at_call 76;exact Calls.quiet_of_same (HLV.out _ ((Upd.refl [] w).drewN _))))
   go_wp2_with fail;go_ret;exact ⟨rfl,(Upd.refl _ _).drewN _⟩
  ·obtain rfl:B=false:=by rw [<- HB2.out];exact decide_eq_false hB
   have hB2:((P:Int) == 0)=false:=by simpa using hB
   go_enter Tryz.func166,Tryz.ntmps166
   go_wp2_with fail
   go_quiet ((go_at_call 76;exact Calls.quiet_of_same (HLV.out _ ((Upd.refl [] w).drewN _))))
   go_wp2_with fail;go_ret;exact ⟨rfl,(Upd.refl _ _).drewN _⟩
theorem rstep_spec (w0:World) (m xb v:Nat) (p0:MPtr) (Z:List Nat) (M:MV) (p j:Nat) (down:Bool) (sw best at_:Nat) (side:Int) (w:World) (h:RfS w0 m xb p0 Z (M.goS p down j) (rfC m v sw best at_ side) w)
  (hg:M.Good) (hv:M.order[p]?=some v) (hok:M.okD p down j) (hj:j<distD M.n p down) (ht:M.trail.length<=900000) (hsw:sw<=900000) :
  Calls Tryz.prog 80 #[.pointer (some ⟨xb,0,none⟩),.int .i64 (sgn down)] w fun e w'=>e=.returned (.int .i64 ((M.goS p down j).exchE (lvlD p down j))) /\
   RfS w0 m xb p0 Z (M.goS p down (j+1)) (pickC ((M.goS p down j).exchE (lvlD p down j)) (rfC m v (sw+1) best at_ side) (rfC m v sw best at_ side)) w':=by
 obtain ⟨l1,l2⟩:=hg.lvl hv hok (by omega);have hn6:=hg.fit.n6
 have hp:p<M.n:=by rw [<- hg.len];exact (List.getElem?_eq_some_iff.1 hv).1
 have c0:w.cell? ⟨xb,0,none⟩=some (.pointer (some ⟨m,0,none⟩)):=cell_at h.blk rfl;have c1:w.cell? ⟨xb,1,none⟩=some (.int .i64 v):=cell_at h.blk rfl;have HLV:=Lib.hid (h.level (hg.goS p down j) l1);rw [l2] at HLV;have htj:=M.goS_trail p down j
 have hdl:distD M.n p down<=6:=by unfold distD;split <;> omega
 have HEX:=Lib.hid (h.exch (hg.goS p down j) (by omega) (lvlD p down j));obtain ⟨L,hL⟩ : ∃ L,lvlD p down j=L:=⟨_,rfl⟩;obtain ⟨P,hP⟩ : ∃ P,posD p down j=P:=⟨_,rfl⟩
 have hg1:M.goS p down (j+1)=(M.goS p down j).exch (L:Nat):=by rw [<- hL];rfl
 have hLP:(L:Int)=if down then (P:Int) else (P:Int)-1:=by
  rw [<- hL,<- hP];cases down
  ·simp [lvlD,posD,distD] at hj ⊢;omega
  ·simp [lvlD,posD]
 rw [hL] at HEX ⊢;rw [hP] at HLV;rw [hg1]
 have hP64:P<=64:=by rw [<- hP];unfold posD;split <;> omega
 obtain ⟨E,hE⟩ : ∃ E,(M.goS p down j).exchE (L:Nat)=E:=⟨_,rfl⟩;rw [hE] at HEX ⊢;have hw1:IntKind.i64.wrap ((sw:Int)+1)=((sw:Int)+1):=IntWalk.i64_in _ (by omega);have hw2:IntKind.i64.wrap ((P:Int)-1)=((P:Int)-1):=IntWalk.i64_in _ (by omega);generalize M.goS p down j=MJ at *;clear h hg hv hok l1 l2 hL hP hg1 hE htj
 cases down with
 | true =>
  rw [if_pos rfl] at hLP
  obtain rfl:L=P:=by omega
  clear hLP;unfold sgn
  go_enter Tryz.func80,Tryz.ntmps80
  go_wp2_with fail
  go_quiet ((go_at_call 76;exact Calls.quiet_of_same (HLV.out _ ((Upd.refl [] w).drewN _))))
  go_wp2_with fail;refine (HEX.out _ ((Upd.refl _ _).drewN _)).mono ?_;rintro e w1 ⟨rfl,hr⟩;have HR:=Lib.hid hr;have x2:w1.cell? ⟨xb,2,none⟩=some (.int .i64 sw):=cell_at hr.blk rfl;have f2:=frozen_at 2 hr.blk;clear hr c0 c1
  by_cases he:E=0
  ·subst he
   have HQ:Hid (RfS w0 m xb p0 Z (MJ.exch (L:Nat)) (rfC m v (sw+1) best at_ side) (w1.setCell ⟨xb,2,none⟩ (.int .i64 ((sw:Int)+1)))):=by
    have:=HR.out.cell (j:=2) (v:=.int .i64 ((sw:Int)+1));exact this
   go_wp2_with fail;go_ret;exact ⟨rfl,HQ.out⟩
  ·have he2:(E == 0)=false:=by simpa using he
   go_wp2_with fail;go_ret;refine ⟨rfl,?_⟩;unfold pickC;rw [if_neg he];exact HR.out
 | false =>
  rw [if_neg (by decide)] at hLP;have HLP:=Lib.hid hLP;clear hLP;unfold sgn
  go_enter Tryz.func80,Tryz.ntmps80
  go_wp2_with fail
  go_quiet ((go_at_call 76;exact Calls.quiet_of_same (HLV.out _ ((Upd.refl [] w).drewN _))))
  go_wp2_with fail;rw [<- HLP.out];refine (HEX.out _ ((Upd.refl _ _).drewN _)).mono ?_;rintro e w1 ⟨rfl,hr⟩;have HR:=Lib.hid hr;have x2:w1.cell? ⟨xb,2,none⟩=some (.int .i64 sw):=cell_at hr.blk rfl;have f2:=frozen_at 2 hr.blk;clear hr c0 c1
  by_cases he:E=0
  ·subst he
   have HQ:Hid (RfS w0 m xb p0 Z (MJ.exch (L:Nat)) (rfC m v (sw+1) best at_ side) (w1.setCell ⟨xb,2,none⟩ (.int .i64 ((sw:Int)+1)))):=by
    have:=HR.out.cell (j:=2) (v:=.int .i64 ((sw:Int)+1));exact this
   go_wp2_with fail;go_ret;exact ⟨rfl,HQ.out⟩
  ·have he2:(E == 0)=false:=by simpa using he
   go_wp2_with fail;go_ret;refine ⟨rfl,?_⟩;unfold pickC;rw [if_neg he];exact HR.out
end Go.Proofs.YtpfafhmkbcahhaaGreat
