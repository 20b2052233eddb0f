import Derived.Test.YtpfafhmkbcahhaaGreatPT26
import Derived.Laws.ResultCell
import Derived.Laws.Rows
set_option maxRecDepth 100000
set_option maxHeartbeats 3200000
namespace Go.Proofs.YtpfafhmkbcahhaaGreat
open Go.RowKit Go.Maps Go.ChangeMaps Go.WideShapes
def MV.lvl (M:MV) (v:Nat):Nat:=M.order.idxOf v
theorem MV.lvl_at {M:MV} {v:Nat} (h:v∈M.order):M.lvl v<M.order.length/\M.order[M.lvl v]?=some v:=by
 have h1:M.order.idxOf v<M.order.length:=List.idxOf_lt_length_iff.2 h;exact ⟨h1,by unfold MV.lvl;rw [List.getElem?_eq_getElem h1,List.getElem_idxOf]⟩
theorem KM.lvl {K:KV} {M:MV} (h:KM K M) (hk:K.Ok) {v:Nat} (hv:v<M.n):K.lev v=M.lvl v/\M.lvl v<M.n/\M.order[M.lvl v]?=some v:=by
 have hn:=h.agr.same.n;have ho:=h.agr.same.od;have hl:=h.len hk;have hol:=hk.ord.pm.ol;obtain ⟨l1,l2⟩:=hk.ord.pm.lo v (by omega)
 have hm:v∈M.order:=by
  rw [ho,<- l2,List.getD_eq_getElem?_getD,List.getElem?_eq_getElem (by omega)];exact List.getElem_mem _
 obtain ⟨h1,h2⟩:=MV.lvl_at hm;have h3:=hk.ord.pm.oo (M.lvl v) (by omega);rw [<- ho,List.getD_eq_getElem?_getD,h2] at h3;exact ⟨h3.2,by omega,h2⟩
theorem posD_two {n p j k:Nat} {down:Bool} (hj:j<=distD n p down) (hk:k<=distD n p (!down)) (h0:k≠0):posD p (!down) k≠posD p down j:=by
 cases down with
 | true=>simp only [posD,distD,Bool.not_true,Bool.false_eq_true,if_true,if_false] at hj hk ⊢;omega
 | false=>simp only [posD,distD,Bool.not_false,Bool.false_eq_true,if_true,if_false] at hj hk ⊢;omega
theorem MV.runG {M:MV} {p g best j b k:Nat} {dn:Bool} (h:M.runD p dn g (distD M.n p dn) 0 best 0=(j,b,k)):j<=distD M.n p dn/\k<=j/\M.okD p dn j:=by
 have f:=M.runD_f p dn g (distD M.n p dn) 0 best 0;rw [h] at f;exact ⟨by have:=f.hi;omega,f.bj (Nat.le_refl _),f.ok (fun i hi=>absurd hi (by omega))⟩
theorem pick_pos (p k:Nat) (dn:Bool):(if k=0 then p else posD p dn k)=posD p dn k:=by
 split
 ·rename_i h;subst h;cases dn <;> simp [posD]
 ·rfl
structure OneF (M:MV) (p g:Nat) (dn:Bool) (j1 b1 k1 j2 b2 k2:Nat):Prop where
 h1:M.runD p dn g (distD M.n p dn) 0 M.live 0=(j1,b1,k1)
 h2:M.runD p (!dn) g (distD M.n p (!dn)) 0 b1 0=(j2,b2,k2)
 l1:j1<=distD M.n p dn
 l2:j2<=distD M.n p (!dn)
 m1:k1<=j1
 m2:k2<=j2
 o1:M.okD p dn j1
 o2:M.okD p (!dn) j2
theorem OneF.of {M:MV} {p g:Nat} {dn:Bool} {j1 b1 k1 j2 b2 k2:Nat} (h1:M.runD p dn g (distD M.n p dn) 0 M.live 0=(j1,b1,k1)) (h2:M.runD p (!dn) g (distD M.n p (!dn)) 0 b1 0=(j2,b2,k2)):OneF M p g dn j1 b1 k1 j2 b2 k2:=by
 have f1:=M.runD_f p dn g (distD M.n p dn) 0 M.live 0;have f2:=M.runD_f p (!dn) g (distD M.n p (!dn)) 0 b1 0;rw [h1] at f1;rw [h2] at f2;exact ⟨h1,h2,by have:=f1.hi;omega,by have:=f2.hi;omega,f1.bj (Nat.le_refl _),f2.bj (Nat.le_refl _),f1.ok (fun i hi=>absurd hi (by omega)),f2.ok (fun i hi=>absurd hi (by omega))⟩
def oneV (M:MV) (p:Nat) (dn:Bool) (j1 k1 j2 k2:Nat):OneV:=if k2≠0 then ⟨M.goS p (!dn) k2,2*j1+(2*j2-k2)⟩ else ⟨M.goS p dn k1,2*j1+2*j2+k1⟩
theorem OneF.eq {M:MV} {p g:Nat} {dn:Bool} {j1 b1 k1 j2 b2 k2:Nat} (h:OneF M p g dn j1 b1 k1 j2 b2 k2) (hd:decide (M.n-1-p<=p)=dn):M.oneD p g=oneV M p dn j1 k1 j2 k2:=by
 unfold MV.oneD oneV
 simp only [hd,h.h1,h.h2]
structure OneQ (b:Nat) (K:KV) (F:List Nat) (M:MV) (O:OneV) (w:World) (e:Ending) (w':World):Prop where
 en:e=.returned (.tuple #[.agg #[.int .i64 M.live,.int .i64 O.M.live,.int .i64 O.sw,.bool false],.int .i64 0])
 mv:KMove b K F O.M w w'
theorem ret_rep {P:Program} {fn:Func} {p u:Tmp} {ty:TypeId} (h:fn.results=#[.cell p ty,.tmp u]) (tmps:Array Value) (Z:World) (rc:Nat) (cs:Array Value) (e:Value) (d:TypeDesc) (hp:tmps.getD p undef=.pointer (some ⟨rc,0,none⟩)) (hu:tmps.getD u undef=e)
  (hg:Z.heap[rc]?=some (.cells cs ty (0,0))) (hun:P.underlying ty=some d) (hd:(match d with | .struct _ | .array _ _=>true | _=>false)=true) (hi:(P.info? ty).map (·.size)=some cs.size) :
  (results fn tmps).run P Z=.ok (.tuple #[.agg cs,e]) Z:=by
 rw [results_cell_tmp h,hp,hu];have hld:=run_loadVar_row (P:=P) Z rc ty ty cs (0,0) d hg hun hd hi
 simp [asAddr,Result.andThen,hld]
theorem drew_heap (z:World) (k:Nat):z.drew.heap[k]?=z.heap[k]?:=rfl
def OneFin (w0:World) (wb b:Nat) (K:KV) (F:List Nat) (O:OneV) (g:Nat) (z:World):Prop :=
 ∃ (at_ best place last:Nat) (st:Value),SwW w0 wb b K F O.M (swC b at_ best place g O.sw last st) z
theorem one_core (b v g:Nat) (K:KV) (F:List Nat) (M:MV) (w:World) (h:KerAt w b K F) (hm:KM K M) (ht:M.trail.length<=900000) (hv:v<M.n) (hg1:100<=g) (hg2:g<=1000) :
  Calls Tryz.prog 17 #[.pointer (some ⟨b,0,none⟩),.int .i64 v,.int .i64 g] w fun e w'=>OneQ b K F M (M.oneD (M.lvl v) g) w e w':=by
 obtain ⟨l1,l2,l3⟩:=hm.lvl h.ok hv;have hn:=hm.agr.same.n
 have hn16:M.n<=16:=by have:=hm.n16;omega
 have HK:Hid (∀ z,Upd [] w z->KerAt z b K F):=fun z u=>h.upd u (by simp)
 have HC:Hid (growE g=0):=by show growE g=0;unfold growE;rw [if_neg (by omega)]
 have hlv:∀ z,Upd [] w z->Calls Tryz.prog 71 #[.pointer (some ⟨b,0,none⟩),.int .i64 v] z fun e w'=>e=.returned (.tuple #[.int .i64 (M.lvl v),.int .i64 0])/\w'=z:=fun z u=>by
  rw [<- l1];exact level_at b v K F z (HK.out z u) (by omega)
 have hli:∀ z,Upd [] w z->Calls Tryz.prog 39 #[.pointer (some ⟨b,0,none⟩)] z fun e w'=>e=.returned (.int .i64 M.live)/\w'=z:=fun z u=>by
  have:=live_at b K F z (HK.out z u);rw [hm.live h.ok h.uni] at this;exact this
 have hva:∀ z,Upd [] w z->Calls Tryz.prog 54 #[.pointer (some ⟨b,0,none⟩)] z fun e w'=>e=.returned (.int .i64 M.n)/\w'=z:=fun z u=>by
  rw [hn];exact vars_at b K F z (HK.out z u)
 have HLE:=Lib.hid (hm.live_le h.ok h.uni);have HM:=Lib.hid (And.intro h hm);obtain ⟨p,hp⟩ : ∃ p,M.lvl v=p:=⟨_,rfl⟩;rw [hp] at hlv l2 l3 ⊢;have HL:=Lib.hid (And.intro hlv (And.intro hli hva));have HP3:=Lib.hid l3;have HN:Hid (∀ k,k∈F->k<w.heap.size):=h.lt;have HNK:=Lib.hid hn;clear hlv hli hva l1 l3 h hm hp hn
 go_enter Tryz.func17,Tryz.ntmps17
 go_wp2_with fail;refine (scheck_spec b g _).mono ?_;rintro e w1 ⟨rfl,rfl⟩;rw [HC.out];go_wp2_with fail;refine (HL.out.1 _ ((Upd.refl _ _).alloc _)).mono ?_;rintro e w1 ⟨rfl,rfl⟩;go_wp2_with fail;refine (HL.out.2.1 _ ((Upd.refl _ _).alloc _)).mono ?_;rintro e w1 ⟨rfl,rfl⟩;go_wp2_with fail;have hho:=HM.out.2.len HM.out.1.ok
 have h64:M.n<=64:=by omega
 have hp0:∀ d,posD p d 0=p:=fun d=>by cases d <;> simp [posD]
 have HS:Hid (SwW (((w.alloc (.cells #[.int .i64 0,.int .i64 0,.int .i64 0,.bool false] 36 (0,0))).alloc (.cells #[.int .i64 M.live,.int .i64 0,.int .i64 0,.bool false] 36 (0,0))).alloc (.cells #[.pointer (some ⟨b,0,none⟩),.int .i64 p,.int .i64 M.live,.int .i64 p,.int .i64 g,.int .i64 0,.int .i64 0,.nilFunc] 132 (0,0)))
   (w.heap.size+1+1) b K F M (swC b p M.live p g 0 0 .nilFunc) (((w.alloc (.cells #[.int .i64 0,.int .i64 0,.int .i64 0,.bool false] 36 (0,0))).alloc (.cells #[.int .i64 M.live,.int .i64 0,.int .i64 0,.bool false] 36 (0,0))).alloc (.cells #[.pointer (some ⟨b,0,none⟩),.int .i64 p,.int .i64 M.live,.int .i64 p,.int .i64 g,.int .i64 0,.int .i64 0,.nilFunc] 132 (0,0))) /\
   Upd [] w (((w.alloc (.cells #[.int .i64 0,.int .i64 0,.int .i64 0,.bool false] 36 (0,0))).alloc (.cells #[.int .i64 M.live,.int .i64 0,.int .i64 0,.bool false] 36 (0,0))).alloc (.cells #[.pointer (some ⟨b,0,none⟩),.int .i64 p,.int .i64 M.live,.int .i64 p,.int .i64 g,.int .i64 0,.int .i64 0,.nilFunc] 132 (0,0))) /\
   (((w.alloc (.cells #[.int .i64 0,.int .i64 0,.int .i64 0,.bool false] 36 (0,0))).alloc (.cells #[.int .i64 M.live,.int .i64 0,.int .i64 0,.bool false] 36 (0,0))).alloc (.cells #[.pointer (some ⟨b,0,none⟩),.int .i64 p,.int .i64 M.live,.int .i64 p,.int .i64 g,.int .i64 0,.int .i64 0,.nilFunc] 132 (0,0))).heap[w.heap.size]?=some (.cells #[.int .i64 0,.int .i64 0,.int .i64 0,.bool false] 36 (0,0)) /\
   (((w.alloc (.cells #[.int .i64 0,.int .i64 0,.int .i64 0,.bool false] 36 (0,0))).alloc (.cells #[.int .i64 M.live,.int .i64 0,.int .i64 0,.bool false] 36 (0,0))).alloc (.cells #[.pointer (some ⟨b,0,none⟩),.int .i64 p,.int .i64 M.live,.int .i64 p,.int .i64 g,.int .i64 0,.int .i64 0,.nilFunc] 132 (0,0))).heap[w.heap.size+1]?=some (.cells #[.int .i64 M.live,.int .i64 0,.int .i64 0,.bool false] 36 (0,0))):=by
  have u:=(((Upd.refl [] w).alloc (.cells #[.int .i64 0,.int .i64 0,.int .i64 0,.bool false] 36 (0,0))).alloc (.cells #[.int .i64 M.live,.int .i64 0,.int .i64 0,.bool false] 36 (0,0))).alloc (.cells #[.pointer (some ⟨b,0,none⟩),.int .i64 p,.int .i64 M.live,.int .i64 p,.int .i64 g,.int .i64 0,.int .i64 0,.nilFunc] 132 (0,0));have s1:=World.size_alloc w (.cells #[.int .i64 0,.int .i64 0,.int .i64 0,.bool false] 36 (0,0));have s2:=World.size_alloc (w.alloc (.cells #[.int .i64 0,.int .i64 0,.int .i64 0,.bool false] 36 (0,0))) (.cells #[.int .i64 M.live,.int .i64 0,.int .i64 0,.bool false] 36 (0,0));refine ⟨⟨⟨K,F,HK.out _ u,HM.out.2,Stay.refl _,fun hm=>by have:=HN.out _ hm;omega,Upd.refl _ _,fun k hk=>.inl hk⟩,?_⟩,u,?_,?_⟩
  ·have:=heap_alloc_new ((w.alloc (.cells #[.int .i64 0,.int .i64 0,.int .i64 0,.bool false] 36 (0,0))).alloc (.cells #[.int .i64 M.live,.int .i64 0,.int .i64 0,.bool false] 36 (0,0))) (.cells #[.pointer (some ⟨b,0,none⟩),.int .i64 p,.int .i64 M.live,.int .i64 p,.int .i64 g,.int .i64 0,.int .i64 0,.nilFunc] 132 (0,0))
   rw [s2,s1] at this;exact this
  ·rw [heap_alloc_old _ _ (by omega),heap_alloc_old _ _ (by omega)];exact heap_alloc_new _ _
  ·rw [heap_alloc_old _ _ (by omega)]
   have:=heap_alloc_new (w.alloc (.cells #[.int .i64 0,.int .i64 0,.int .i64 0,.bool false] 36 (0,0))) (.cells #[.int .i64 M.live,.int .i64 0,.int .i64 0,.bool false] 36 (0,0))
   rw [s1] at this;exact this
 obtain ⟨W1,hW1⟩ : ∃ W1,(((w.alloc (.cells #[.int .i64 0,.int .i64 0,.int .i64 0,.bool false] 36 (0,0))).alloc (.cells #[.int .i64 M.live,.int .i64 0,.int .i64 0,.bool false] 36 (0,0))).alloc (.cells #[.pointer (some ⟨b,0,none⟩),.int .i64 p,.int .i64 M.live,.int .i64 p,.int .i64 g,.int .i64 0,.int .i64 0,.nilFunc] 132 (0,0)))=W1:=⟨_,rfl⟩;rw [hW1] at HS ⊢;clear hW1;refine (HL.out.2.2 _ HS.out.2.1).mono ?_;rintro e w1 ⟨rfl,rfl⟩;generalize hwb:w.heap.size+1+1=wb at *;generalize hrb:w.heap.size+1=rb at *;generalize hrc:w.heap.size=rc at *;obtain ⟨dn,hdn⟩ : ∃ dn,decide (M.n-1-p<=p)=dn:=⟨_,rfl⟩
 have hd3:decide ((M.n:Int)-1-(p:Int)<=(p:Int))=dn:=by rw [<- hdn];exact decide_eq_decide.2 (by omega)
 have HD:=Lib.hid hdn;have HX:=Lib.hid (And.intro hwb (And.intro hrb hrc));clear hdn hwb hrb hrc;go_wp2_with fail;refine (SwW.toward HS.out.1 dn).mono ?_;rintro e w2 ⟨rfl,bx,hs⟩;have HS2:=Lib.hid hs;clear hs hd3;go_wp2_with fail;refine (run_spec w1 wb bx b K F M p g dn M.live p 0 w2 HS2.out l2 h64 ht (by omega) HLE.out hg2).mono ?_;rintro e w3 hq;obtain rfl:=hq.en;obtain ⟨j1,b1,k1,h1,hb1,hs⟩:=hq.ex;obtain ⟨l1,m1,o1⟩:=MV.runG h1;rw [pick_pos] at hs
 have hdl:∀ d,distD M.n p d<=64:=fun d=>by unfold distD;split <;> omega
 have hdl1:=hdl dn;have hdl2:=hdl (!dn);have HU:=Lib.hid (sundo_spec w1 wb bx b K F M p j1 0 dn b1 (posD p dn k1) g (0+j1) _ _ w3 hs hho o1 l1 (Nat.zero_le _) l2 h64 ht (by omega));rw [hp0] at HU;have HH1:=Lib.hid (And.intro h1 (And.intro o1 (And.intro l1 m1)));clear hq hs HS2 h1 o1 l1 m1 hdl;go_wp2_with fail;refine HU.out.mono ?_;rintro e w4 ⟨rfl,hs⟩;have hs:SwS w1 wb bx b K F M (swC b p b1 (posD p dn k1) g (0+j1+(j1-0)) (if dn then M.n-1 else 0) (stepV dn bx)) w4:=hs;rw [show 0+j1+(j1-0)=2*j1 by omega] at hs;have c3:w4.cell? ⟨wb,3,none⟩=some (.int .i64 (posD p dn k1)):=cell_at hs.blk rfl;have HS4:=Lib.hid hs;clear hs HU;go_wp2_with fail;refine (SwW.toward HS4.out.w (!dn)).mono ?_;rintro e w5 ⟨rfl,bx2,hs⟩;have HS5:=Lib.hid hs;clear hs c3 HS4;go_wp2_with fail;refine (run_spec w1 wb bx2 b K F M p g (!dn) b1 (posD p dn k1) (2*j1) w5 HS5.out l2 h64 ht (by have:=HH1.out.2.2.1;omega) hb1 hg2).mono ?_;rintro e w6 hq;obtain rfl:=hq.en;obtain ⟨j2,b2,k2,h2,hb2,hs⟩:=hq.ex;obtain ⟨l3,m2,o2⟩:=MV.runG h2;have HO:Hid (M.oneD p g=oneV M p dn j1 k1 j2 k2):=(OneF.of HH1.out.1 h2).eq HD.out;have HS6:=Lib.hid hs;have HH2:=Lib.hid (And.intro o2 (And.intro l3 m2));obtain ⟨pl,hpl⟩ : ∃ pl,(if k2=0 then posD p dn k1 else posD p (!dn) k2)=pl:=⟨_,rfl⟩
 have c3:w6.cell? ⟨wb,3,none⟩=some (.int .i64 pl):=by rw [<- hpl];exact cell_at hs.blk rfl
 have hpe:((pl:Int) == (posD p dn k1:Nat))=decide (k2=0):=by
  rw [<- hpl]
  by_cases hk:k2=0
  ·rw [if_pos hk,decide_eq_true hk];simp
  ·rw [if_neg hk,decide_eq_false hk]
   have:=posD_two (n:=M.n) (p:=p) (j:=k1) (k:=k2) (down:=dn) (by have:=HH1.out.2.2;omega) (by omega) hk
   simpa using fun e=>this (by omega)
 have HPL:=Lib.hid hpl;obtain ⟨fi,hfi⟩ : ∃ fi,posD p dn k1=fi:=⟨_,rfl⟩;rw [hfi] at hpe ⊢;have HFI:=Lib.hid hfi;clear hq hs o2 l3 m2 h2 HS5 hpl hfi
 have hj164:j1<=64:=by have:=HH1.out.2.2.1;omega
 have hk164:k1<=64:=by have:=HH1.out.2.2.2;omega
 have hj264:j2<=64:=by have:=HH2.out.2.1;omega
 obtain ⟨q,hq1⟩ : ∃ q,((pl:Int) != (fi:Int))=q:=⟨_,rfl⟩
 have HQE:Hid (q=!decide (k2=0)):=by show q=_;rw [<- hq1,bne,hpe]
 go_upto_if 73 with fail;clear hq1
 go_cut [] from 74 to 102 (fun wx=>OneFin w1 wb b K F (M.oneD p g) g wx)
 case first =>
  by_cases hk:k2=0
  ·obtain rfl:q=false:=by rw [HQE.out,decide_eq_true hk];rfl
   have hpp:pl=fi:=by rw [<- HPL.out,if_pos hk,HFI.out]
   subst hpp;have HZ:=Lib.hid hk;have HU:=Lib.hid (sundo_spec w1 wb bx2 b K F M p j2 0 (!dn) b2 _ g _ _ _ w6 HS6.out hho HH2.out.1 HH2.out.2.1 (Nat.zero_le _) l2 h64 ht (by have:=HH1.out.2.2.1;have:=HH2.out.2.1;omega));rw [hp0] at HU;clear c3 hk hpe;go_wp2_with fail;refine HU.out.mono ?_;rintro e w7 ⟨rfl,hs⟩;have hs:SwS w1 wb bx2 b K F M (swC b p b2 (if k2=0 then posD p dn k1 else posD p (!dn) k2) g (2*j1+j2+(j2-0)) (if !dn then M.n-1 else 0) (stepV (!dn) bx2)) w7:=hs;rw [HPL.out,show 2*j1+j2+(j2-0)=2*j1+2*j2 by omega] at hs;have HS7:=Lib.hid hs;clear hs HU;go_wp2_with fail;refine (SwW.toward HS7.out.w dn).mono ?_;rintro e w8 ⟨rfl,bx3,hs⟩;have HS8:=Lib.hid hs;clear hs HS7;go_wp2_with fail
   go_loopg [] k1 (fun gg wr=>∃ i:Nat,k1-i=gg/\i<=k1/\SwS w1 wb bx3 b K F (M.goS p dn i) (swC b (posD p dn i) b2 pl g (2*j1+2*j2+i) (if dn then M.n-1 else 0) (stepV dn bx3)) wr)
   case atStart=>exact ⟨0,by omega,by omega,by rw [hp0];exact HS8.out⟩
   case round =>
    obtain ⟨i,rfl,hik,hq⟩:=hrel;have c0:wr.cell? ⟨wb,0,none⟩=some (.pointer (some ⟨b,0,none⟩)):=cell_at hq.blk rfl;have c1:wr.cell? ⟨wb,1,none⟩=some (.int .i64 (posD p dn i)):=cell_at hq.blk rfl;have c3:wr.cell? ⟨wb,3,none⟩=some (.int .i64 pl):=cell_at hq.blk rfl;have c7:wr.cell? ⟨wb,7,none⟩=some (stepV dn bx3):=cell_at hq.blk rfl;have hinj:=posD_inj (n:=M.n) (p:=p) (down:=dn) (j:=i) (k:=k1) (by have:=HH1.out.2.2;omega) (by have:=HH1.out.2.2;omega);rw [HFI.out] at hinj
    by_cases hd:i=k1
    ·subst hd
     rw [hinj.2 rfl] at c1
     have HF:Hid (∀ z,Upd [] wr z->OneFin w1 wb b K F (M.oneD p g) g z):=fun z u=>by
      rw [HO.out];unfold oneV;rw [if_neg (by have:=HZ.out;omega)];exact ⟨_,_,_,_,_,(hq.keep u).w⟩
     clear hq hinj;go_wp2_with fail
     go_quiet (fail)
     go_wp2_with fail;go_meet;exact HF.out _ ((Upd.refl _ _).drewN _)
    ·have hil:i<k1:=by omega
     have hpe2:¬ ((posD p dn i:Nat):Int)=(pl:Int):=fun e=>hd (hinj.1 (by omega))
     have hpe3:(((posD p dn i:Nat):Int) == (pl:Int))=false:=by simpa using hpe2
     have hpe4:(((posD p dn i:Nat):Int) != (pl:Int))=true:=by rw [bne,hpe3];rfl
     have hex:=HH1.out.2.1 i (by have:=HH1.out.2.2;omega);have htr:=(M.goS_trail p dn i);obtain ⟨fl,hfl⟩ : ∃ fl,stepF dn=fl:=⟨_,rfl⟩
     have hst:stepV dn bx3=.func (.func fl) #[] #[.pointer (some ⟨bx3,0,none⟩)]:=by rw [<- hfl];rfl
     have hen:=enters_step dn;rw [hfl] at hen
     have HST:Hid (∀ z,Upd [] wr z->Calls Tryz.prog fl #[.pointer (some ⟨bx3,0,none⟩)] z fun e w'=>e=.returned (.int .i64 0) /\
       SwS w1 wb bx3 b K F (M.goS p dn (i+1)) (swC b (posD p dn (i+1)) b2 pl g (2*j1+2*j2+(i+1)) (if dn then M.n-1 else 0) (stepV dn bx3)) w'):=fun z u=>by
      have:=step_any wb bx3 b K F M p dn i b2 pl g (2*j1+2*j2+i) _ _ w1 z (hq.keep u) l2 h64 (by have:=HH1.out.2.2;omega) (by omega) (by omega);rw [hfl,hex] at this;exact this
     rw [hst] at c7;have HFL:=Lib.hid hfl;clear hq hst hfl hex htr hinj;go_upto_region 20 with fail
     go_cut [102] from 86 to 102 (fun s102 wx=>s102=.bool true/\SwS w1 wb bx3 b K F (M.goS p dn (i+1)) (swC b (posD p dn (i+1)) b2 pl g (2*j1+2*j2+(i+1)) (if dn then M.n-1 else 0) (stepV dn bx3)) wx)
     case first =>
      cases dn with
      | true =>
       obtain rfl:fl=161:=HFL.out.symm;clear hen
       go_region_with (go_at_call 161;refine (HST.out _ (by first | exact (Upd.refl _ _).drew | exact (Upd.refl _ _))).mono ?_;rintro e w10 ⟨rfl,q⟩;have HQ:=Lib.hid q;clear q)
       all_goals
        go_wp2_with fail;go_meet;exact ⟨rfl,HQ.out⟩
      | false =>
       obtain rfl:fl=163:=HFL.out.symm;clear hen
       go_region_with (go_at_call 163;refine (HST.out _ (by first | exact (Upd.refl _ _).drew | exact (Upd.refl _ _))).mono ?_;rintro e w10 ⟨rfl,q⟩;have HQ:=Lib.hid q;clear q)
       all_goals
        go_wp2_with fail;go_meet;exact ⟨rfl,HQ.out⟩
     case rest =>
      obtain ⟨rfl,hq⟩:=hcut;have HQ:=Lib.hid hq;clear hq c0 c1 c3 c7 HST hen;go_wp2_with fail
      go_roundg (k1-(i+1))
      case measure=>omega
      case rel=>exact ⟨i+1,rfl,by omega,HQ.out⟩
  ·obtain rfl:q=true:=by rw [HQE.out,decide_eq_false hk];rfl
   have HZ:=Lib.hid hk;have HU:=Lib.hid (sundo_spec w1 wb bx2 b K F M p j2 k2 (!dn) b2 _ g _ _ _ w6 HS6.out hho HH2.out.1 HH2.out.2.1 HH2.out.2.2 l2 h64 ht (by have:=HH1.out.2.2.1;have:=HH2.out.2.1;omega))
   have hpk:posD p (!dn) k2=pl:=by rw [<- HPL.out,if_neg hk]
   rw [hpk] at HU;clear hk hpk hpe;go_wp2_with fail;refine HU.out.mono ?_;rintro e w7 ⟨rfl,hs⟩
   have HF:Hid (OneFin w1 wb b K F (M.oneD p g) g w7):=by
    rw [HO.out];unfold oneV;rw [if_pos HZ.out]
    have e1:2*j1+(2*j2-k2)=2*j1+j2+(j2-k2):=by have:=HH2.out.2.2;omega
    rw [e1];exact ⟨_,_,_,_,_,hs.w⟩
   clear hs HU;go_wp2_with fail;go_meet;exact HF.out
 case rest =>
  obtain ⟨at_,best,place,last,st,hs⟩:=hcut;obtain ⟨K9,F9,a1,a2,a3,a4,a6,a7⟩:=hs.ex;obtain ⟨x1,x2,x3⟩:=HX.out;have hFw:∀ k,k∈F->k<rc:=HN.out;have hb0:=(a6.block rb (heap_lt HS.out.2.2.2) (by intro hm;rcases List.mem_cons.1 hm with h | h;(· omega);(· have:=hFw _ h;omega))).trans HS.out.2.2.2;have hc0:=(a6.block rc (heap_lt HS.out.2.2.1) (by intro hm;rcases List.mem_cons.1 hm with h | h;(· omega);(· have:=hFw _ h;omega))).trans HS.out.2.2.1
  have HMV:Hid (∀ z,Upd [rb,rc] wc z->KMove b K F (M.oneD p g).M w z):=fun z u=>by
   have hlt9:=a1.lt;have hrl:=heap_lt HS.out.2.2.2
   have hn9:∀ k,k∈F9->k∉[rb,rc]:=fun k hk hm=>by
    have:=a7 k (by simp [hk])
    simp at hm
    rcases this with h | h
    ·rcases List.mem_cons.1 h with h | h
     ·subst h;exact a4 hk
     ·have:=hFw _ h;omega
    ·omega
   have hlw:wb<w1.heap.size:=heap_lt HS.out.1.blk;refine ⟨K9,F9,a1.upd u (fun k hk=>hn9 k hk),a2,a3,?_,?_⟩
   ·refine (Upd.then (S:=F) ((HS.out.2.1.mono (by simp)).then a6 (fun k hk=>?_)) u (fun k hk=>?_))
    ·rcases List.mem_cons.1 hk with h | h
     ·right;omega
     ·exact .inl h
    ·right
     simp at hk
     omega
   ·intro k hk
    rcases a7 k (by simp [hk]) with h | h
    ·rcases List.mem_cons.1 h with h | h
     ·subst h;exact absurd hk a4
     ·exact .inl h
    ·right
     have:=HS.out.2.1.size;omega
  have HLV:=Lib.hid (live_sw hs);have c5:wc.cell? ⟨wb,5,none⟩=some (.int .i64 (M.oneD p g).sw):=cell_at hs.blk rfl;have b0:=cell_at (j:=0) hb0 rfl;have b1:=cell_at (j:=1) hb0 rfl;have b2:=cell_at (j:=2) hb0 rfl;have b3:=cell_at (j:=3) hb0 rfl;have d0:=cell_at (j:=0) hc0 rfl;have d1:=cell_at (j:=1) hc0 rfl;have d2:=cell_at (j:=2) hc0 rfl;have d3:=cell_at (j:=3) hc0 rfl;have f1:=frozen_at 1 hb0;have f2:=frozen_at 2 hb0;have g0:=frozen_at 0 hc0;have g1:=frozen_at 1 hc0;have g2:=frozen_at 2 hc0;have g3:=frozen_at 3 hc0
  have hbc:rb≠rc:=by omega
  have HBC:Hid (rc≠rb):=by show rc≠rb;omega
  have HRI:Hid ((Tryz.prog.info? 36).map (·.size)=some 4):=by show _=_;kernel_rfl
  have HRC:Hid (∀ z:World,z.heap[rc]?=some (.cells #[.int .i64 0,.int .i64 0,.int .i64 0,.bool false] 36 (0,0))->((((z.setCell ⟨rc,0,none⟩ (.int .i64 M.live)).setCell ⟨rc,1,none⟩ (.int .i64 (M.oneD p g).M.live)).setCell ⟨rc,2,none⟩ (.int .i64 (M.oneD p g).sw)).setCell ⟨rc,3,none⟩ (.bool false)).heap[rc]?=some (.cells #[.int .i64 M.live,.int .i64 (M.oneD p g).M.live,.int .i64 (M.oneD p g).sw,.bool false] 36 (0,0))):=fun z hz=>by
   rw [heap_set_eq (heap_set_eq (heap_set_eq (heap_set_eq hz _) _) _) _];rfl
  clear hs a1 a2 a3 a4 a6 a7 x1 x2 x3;generalize hSW:(M.oneD p g).sw=SW at *;generalize hLV:(M.oneD p g).M.live=LV at *;have HEN:=Lib.hid (And.intro hSW hLV);clear hSW hLV;go_upto_region 21 with fail
  go_region_with (go_at_call 39;refine (HLV.out _ (by first | exact (Upd.refl _ _).drew | exact (Upd.refl _ _))).mono ?_;rintro e w10 ⟨rfl,rfl⟩)
  all_goals
   go_wp2_with fail;refine bodyPost_ret (ret_rep rfl _ _ rc #[.int .i64 M.live,.int .i64 LV,.int .i64 SW,.bool false] (.int .i64 0) _ rfl rfl ?_ Tryz.underlying36 rfl HRI.out) rfl ⟨by rw [HEN.out.1,HEN.out.2],HMV.out _ ?_⟩
   ·rw [drew_heap]
    refine HRC.out _ ?_;rw [heap_set_ne HBC.out,heap_set_ne HBC.out];exact hc0
   ·exact (((((((Upd.refl _ wc).setCell (.inl (by simp)) _).setCell (.inl (by simp)) _).setCell (.inl (by simp)) _).setCell (.inl (by simp)) _).setCell (.inl (by simp)) _).setCell (.inl (by simp)) _).drew
def MV.oneE (M:MV) (v g:Int):Int:=if g<100\/1000<g then 1 else if 0<=v/\v<M.n then 0 else 2
def MV.one (M:MV) (v g:Int):MV:=if M.oneE v g=0 then (M.oneD (M.lvl v.toNat) g.toNat).M else M
def MV.oneR (M:MV) (v g:Int):Array Value:=if M.oneE v g=0 then #[.int .i64 M.live,.int .i64 (M.oneD (M.lvl v.toNat) g.toNat).M.live,.int .i64 (M.oneD (M.lvl v.toNat) g.toNat).sw,.bool false] else #[.int .i64 0,.int .i64 0,.int .i64 0,.bool false]
structure OneP (b:Nat) (K:KV) (F:List Nat) (M:MV) (v g:Int) (w:World) (e:Ending) (w':World):Prop where
 en:e=.returned (.tuple #[.agg (M.oneR v g),.int .i64 (M.oneE v g)])
 mv:KMove b K F (M.one v g) w w'
theorem KMove.same {b:Nat} {K:KV} {F:List Nat} {M:MV} {w w':World} (h:KerAt w b K F) (hm:KM K M) (u:Upd [] w w'):KMove b K F M w w' :=
 ⟨K,F,h.upd u (by simp),hm,Stay.refl K,u.mono (by simp),Sub.refl _ _⟩
theorem OneP.no {b:Nat} {K:KV} {F:List Nat} {M:MV} {v g c:Int} {w w':World} (h:KerAt w b K F) (hm:KM K M) (u:Upd [] w w') (hc:M.oneE v g=c) (h0:c≠0):OneP b K F M v g w (.returned (.tuple #[.agg #[.int .i64 0,.int .i64 0,.int .i64 0,.bool false],.int .i64 c])) w':=by
 refine ⟨?_,?_⟩
 ·unfold MV.oneR;rw [hc,if_neg h0]
 ·unfold MV.one;rw [hc,if_neg h0];exact KMove.same h hm u
theorem one_spec (b:Nat) (v g:Int) (K:KV) (F:List Nat) (M:MV) (w:World) (h:KerAt w b K F) (hm:KM K M) (ht:M.trail.length<=900000) :
  Calls Tryz.prog 17 #[.pointer (some ⟨b,0,none⟩),.int .i64 v,.int .i64 g] w fun e w'=>OneP b K F M v g w e w':=by
 have hn:=hm.agr.same.n
 by_cases hg:g<100\/1000<g
 ·have HE:Hid (M.oneE v g=1):=by show _=_;unfold MV.oneE;rw [if_pos hg]
  have HG:Hid (growE g=1):=by show _=_;unfold growE;rw [if_pos hg]
  have HM:=Lib.hid (And.intro h hm)
  have HRI:Hid ((Tryz.prog.info? 36).map (·.size)=some 4):=by show _=_;kernel_rfl
  have hb0:=heap_alloc_new w (.cells #[.int .i64 0,.int .i64 0,.int .i64 0,.bool false] 36 (0,0));have HB:=Lib.hid hb0;clear h hm hg hn hb0
  go_enter Tryz.func17,Tryz.ntmps17
  go_wp2_with fail;refine (scheck_spec b g _).mono ?_;rintro e w1 ⟨rfl,rfl⟩;rw [HG.out];go_wp2_with fail;refine bodyPost_ret (ret_rep rfl _ _ w.heap.size #[.int .i64 0,.int .i64 0,.int .i64 0,.bool false] (.int .i64 1) _ rfl rfl HB.out Tryz.underlying36 rfl HRI.out) rfl (OneP.no HM.out.1 HM.out.2 ((Upd.refl [] w).alloc _) HE.out (by decide))
 ·by_cases hv:0<=v/\v<M.n
  ·obtain ⟨u,rfl⟩ : ∃ u:Nat,v=(u:Int):=⟨v.toNat,by omega⟩
   obtain ⟨k,rfl⟩ : ∃ k:Nat,g=(k:Int):=⟨g.toNat,by omega⟩
   have hE:M.oneE u k=0:=by unfold MV.oneE;rw [if_neg hg,if_pos hv]
   refine (one_core b u k K F M w h hm ht (by omega) (by omega) (by omega)).mono ?_;rintro e w' hQ;refine ⟨hQ.en.trans ?_,?_⟩
   ·unfold MV.oneR;rw [hE,if_pos rfl,Int.toNat_natCast,Int.toNat_natCast]
   ·unfold MV.one;rw [hE,if_pos rfl,Int.toNat_natCast,Int.toNat_natCast];exact hQ.mv
  ·have HE:Hid (M.oneE v g=2):=by show _=_;unfold MV.oneE;rw [if_neg hg,if_neg hv]
   have HG:Hid (growE g=0):=by show _=_;unfold growE;rw [if_neg hg]
   have HM:=Lib.hid (And.intro h hm)
   have HRI:Hid ((Tryz.prog.info? 36).map (·.size)=some 4):=by show _=_;kernel_rfl
   have hb0:=heap_alloc_new w (.cells #[.int .i64 0,.int .i64 0,.int .i64 0,.bool false] 36 (0,0));have HB:=Lib.hid hb0;have HL:=Lib.hid (level_no b v K F _ (h.upd ((Upd.refl [] w).alloc (.cells #[.int .i64 0,.int .i64 0,.int .i64 0,.bool false] 36 (0,0))) (by simp)) (by unfold KV.isVar;exact decide_eq_false (by rw [<- hn];exact hv)));clear h hm hg hn hb0 hv
   go_enter Tryz.func17,Tryz.ntmps17
   go_wp2_with fail;refine (scheck_spec b g _).mono ?_;rintro e w1 ⟨rfl,rfl⟩;rw [HG.out];go_wp2_with fail;refine HL.out.mono ?_;rintro e w1 ⟨rfl,rfl⟩;go_wp2_with fail;refine bodyPost_ret (ret_rep rfl _ _ w.heap.size #[.int .i64 0,.int .i64 0,.int .i64 0,.bool false] (.int .i64 2) _ rfl rfl HB.out Tryz.underlying36 rfl HRI.out) rfl (OneP.no HM.out.1 HM.out.2 ((Upd.refl [] w).alloc _) HE.out (by decide))
end Go.Proofs.YtpfafhmkbcahhaaGreat
