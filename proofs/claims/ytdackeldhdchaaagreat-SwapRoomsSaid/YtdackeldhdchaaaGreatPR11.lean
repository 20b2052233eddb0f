import Derived.Test.YtdackeldhdchaaaGreatPR10
set_option maxRecDepth 100000
set_option maxHeartbeats 3200000
namespace Go.Proofs.YtdackeldhdchaaaGreat
open Go.RowKit Go.Maps Go.ChangeMaps Go.WideShapes
structure RG (u:TV) (x:Nat) (b:Bool) (n:Nat) (w:World) (e:Ending) (w':World):Prop where
 ex:∃ (a:Option Addr) (m c:Nat),e=.returned (.agg #[.int .i64 n,.slice a m c])/\lU w w' (.slice a m c) (bG u x b)/\af [] w w'
theorem RG.of {u:TV} {x n:Nat} {b:Bool} {w w':World} {e:Ending} (h:Bl (bG u x b) w e w') (hn:u.n=n):RG u x b n w e w':=by
 obtain ⟨c,rfl,hT,hu⟩:=h.ex;obtain ⟨a,m,hc,_⟩:=fP hT.row;subst hc;exact ⟨a,_,m,by unfold bK;rw [show (bG u x b).n=n from hn],hT,hu⟩
def lV (w:World) (b:Nat):Prop:=w.cell? ⟨b,0,none⟩=some (.int .i64 0)/\w.cell? ⟨b,1,none⟩=some (.slice none 0 0)/\w.frozen? ⟨b,0,none⟩=false/\w.frozen? ⟨b,1,none⟩=false/\b<w.heap.size
theorem lV.lt {w:World} {b:Nat} (h:lV w b):b<w.heap.size:=h.2.2.2.2
theorem ig {V w':World} {b:Nat} (u:af [] (V.alloc (.cells #[.int .i64 0,.slice none 0 0] 121 (0,0))) w') (hb:V.heap.size=b):lV w' b:=by
 subst hb;have e:=(u.block _ (aj (heap_alloc_new V _)) (by simp)).trans (heap_alloc_new V (.cells #[.int .i64 0,.slice none 0 0] 121 (0,0)));exact ⟨ae e rfl,ae e rfl,ak 0 e,ak 1 e,aj e⟩
theorem yG {w w':World} {b:Nat} (u:af [] w w') (h:lV w b):lV w' b:=by
 have hb:b<w.heap.size:=World.block_lt_of_cell? _ _ h.1;exact ⟨(u.cell (a:=⟨b,0,none⟩) hb (by simp)).trans h.1,(u.cell (a:=⟨b,1,none⟩) hb (by simp)).trans h.2.1,(u.frozen (a:=⟨b,0,none⟩) hb (by simp)).trans h.2.2.1,(u.frozen (a:=⟨b,1,none⟩) hb (by simp)).trans h.2.2.2.1,Nat.lt_of_lt_of_le hb u.size⟩
theorem BB (L:List TV) (t:TV) (x:Nat):bg (L++[t]) x=addT (addT (bg L x) (bG t x false)) (bG t x true):=by unfold bg;rw [List.foldl_append];rfl
theorem oC (L:List TV) (x:Nat):(bg L x).length<=2*L.length:=by
 have key:∀ (L l:List TV),(L.foldl (fun l t=>addT (addT l (bG t x false)) (bG t x true)) l).length<=l.length+2*L.length:=by
  intro L
  induction L with
  | nil=>intro l;simp
  | cons a L ih =>
   intro l
   have:=ih (addT (addT l (bG a x false)) (bG a x true));have h1:=pK (addT l (bG a x false)) (bG a x true);have h2:=pK l (bG a x false)
   simp only [List.foldl_cons,List.length_cons];omega
 have:=key L [];unfold bg
 simpa using this
structure JO (u:TV) (x n:Nat) (w:World) (s8 s9:Value) (wc:World):Prop where
 ex:∃ (A B:Nat) (fa:Option Addr) (fm fc:Nat) (ta:Option Addr) (tm tc:Nat),s8=.pointer (some ⟨A,0,none⟩)/\s9=.pointer (some ⟨B,0,none⟩)/\w.heap.size<=A/\w.heap.size<=B /\
  wc.cell? ⟨A,0,none⟩=some (.int .i64 n)/\wc.cell? ⟨A,1,none⟩=some (.slice fa fm fc)/\wc.cell? ⟨B,0,none⟩=some (.int .i64 n)/\wc.cell? ⟨B,1,none⟩=some (.slice ta tm tc) /\
  lU w wc (.slice fa fm fc) (bG u x false)/\lU w wc (.slice ta tm tc) (bG u x true)/\af [] w wc
structure zy (Z:List Nat) (L:List TV) (t:TV) (n:Nat) (w wr:World) (B:Nat) (ta:Option Addr) (tm tc:Nat) (s5:Value) (wx:World):Prop where
 ls:eF wx w.heap.size Z s5 L
 tn:lU wr wx (.slice ta tm tc) t
 b0:wx.cell? ⟨B,0,none⟩=some (.int .i64 n)
 b1:wx.cell? ⟨B,1,none⟩=some (.slice ta tm tc)
 up:af [] w wx
theorem JP (w:World):w.drew.heap.size=w.heap.size:=rfl
def GV (n:Nat) (w wc:World) (A B:Nat) (fa:Option Addr) (fm fc:Nat) (ta:Option Addr) (tm tc:Nat):Prop :=
 af [A,B] w wc/\wc.cell? ⟨A,0,none⟩=some (.int .i64 n)/\wc.cell? ⟨A,1,none⟩=some (.slice fa fm fc)/\wc.cell? ⟨B,0,none⟩=some (.int .i64 n)/\wc.cell? ⟨B,1,none⟩=some (.slice ta tm tc)
theorem ji {w:World} {A:Nat} (h:lV w A) (x y:Value):((w.setCell ⟨A,0,none⟩ x).setCell ⟨A,1,none⟩ y).cell? ⟨A,0,none⟩=some x/\((w.setCell ⟨A,0,none⟩ x).setCell ⟨A,1,none⟩ y).cell? ⟨A,1,none⟩=some y:=by
 refine ⟨?_,?_⟩
 ·rw [World.cell?_setCell_other _ _ _ _ (by simp)]
  exact World.cell?_setCell_same _ _ _ h.1
 ·exact World.cell?_setCell_same _ _ _ ((World.cell?_setCell_other _ _ _ _ (by simp)).trans h.2.1)
theorem iG {w:World} {A B:Nat} (h:A≠B) (x y:Value) (i:Nat):((w.setCell ⟨A,0,none⟩ x).setCell ⟨A,1,none⟩ y).cell? ⟨B,i,none⟩=w.cell? ⟨B,i,none⟩:=by
 rw [World.cell?_setCell_other _ _ _ _ (by simp),World.cell?_setCell_other _ _ _ _ (by simp)]
theorem RH {n:Nat} {w:World} {A B:Nat} {fa:Option Addr} {fm fc:Nat} {ta:Option Addr} {tm tc:Nat} (hA:lV w A) (hB:lV w B) (hne:A≠B) :
  GV n w ((((w.setCell ⟨A,0,none⟩ (.int .i64 n)).setCell ⟨A,1,none⟩ (.slice fa fm fc)).setCell ⟨B,0,none⟩ (.int .i64 n)).setCell ⟨B,1,none⟩ (.slice ta tm tc)) A B fa fm fc ta tm tc:=by
 refine ⟨(((((af.refl _ w).setCell (by simp) _).setCell (by simp) _).setCell (by simp) _).setCell (by simp) _),?_,?_,?_,?_⟩
 ·rw [iG (Ne.symm hne)];exact (ji hA _ _).1
 ·rw [iG (Ne.symm hne)];exact (ji hA _ _).2
 ·exact (ji ⟨(iG hne _ _ 0).trans hB.1,(iG hne _ _ 1).trans hB.2.1,by rw [World.frozen?_setCell,World.frozen?_setCell];exact hB.2.2.1,by rw [World.frozen?_setCell,World.frozen?_setCell];exact hB.2.2.2.1,by simpa using hB.2.2.2.2⟩ _ _).1
 ·exact (ji ⟨(iG hne _ _ 0).trans hB.1,(iG hne _ _ 1).trans hB.2.1,by rw [World.frozen?_setCell,World.frozen?_setCell];exact hB.2.2.1,by rw [World.frozen?_setCell,World.frozen?_setCell];exact hB.2.2.2.1,by simpa using hB.2.2.2.2⟩ _ _).2
theorem JQ {n:Nat} {w:World} {A:Nat} {fa:Option Addr} {fm fc:Nat} {ta:Option Addr} {tm tc:Nat} (hA:lV w A) :
  GV n w (((w.setCell ⟨A,0,none⟩ (.int .i64 n)).setCell ⟨A,1,none⟩ (.slice fa fm fc)).alloc (.cells #[.int .i64 n,.slice ta tm tc] 121 (0,0))) A w.heap.size fa fm fc ta tm tc:=by
 have hl:=hA.2.2.2.2;have hz:=jc ((w.setCell ⟨A,0,none⟩ (.int .i64 n)).setCell ⟨A,1,none⟩ (.slice fa fm fc)) (.int .i64 n) (.slice ta tm tc);rw [World.size_setCell,World.size_setCell] at hz;refine ⟨(((af.refl _ w).setCell (by simp) _).setCell (by simp) _).alloc _,?_,?_,hz.1,hz.2⟩
 ·rw [World.cell?_alloc_lt _ _ _ (by simpa using hl)];exact (ji hA _ _).1
 ·rw [World.cell?_alloc_lt _ _ _ (by simpa using hl)];exact (ji hA _ _).2
theorem RI {n:Nat} {w:World} {B:Nat} {fa:Option Addr} {fm fc:Nat} {ta:Option Addr} {tm tc:Nat} (hB:lV w B) :
  GV n w (((w.setCell ⟨B,0,none⟩ (.int .i64 n)).setCell ⟨B,1,none⟩ (.slice ta tm tc)).alloc (.cells #[.int .i64 n,.slice fa fm fc] 121 (0,0))) w.heap.size B fa fm fc ta tm tc:=by
 obtain ⟨h1,h2,h3,h4,h5⟩:=JQ (n:=n) (fa:=ta) (fm:=tm) (fc:=tc) (ta:=fa) (tm:=fm) (tc:=fc) hB;exact ⟨h1.mono fun x hx=>by simp only [List.mem_cons,List.not_mem_nil,or_false] at hx ⊢;exact hx.symm,h4,h5,h2,h3⟩
theorem JR {n:Nat} {w:World} {fa:Option Addr} {fm fc:Nat} {ta:Option Addr} {tm tc:Nat} :
  GV n w ((w.alloc (.cells #[.int .i64 n,.slice fa fm fc] 121 (0,0))).alloc (.cells #[.int .i64 n,.slice ta tm tc] 121 (0,0))) w.heap.size (w.heap.size+1) fa fm fc ta tm tc:=by
 have hz:=jc (w.alloc (.cells #[.int .i64 n,.slice fa fm fc] 121 (0,0))) (.int .i64 n) (.slice ta tm tc);have hy:=jc w (.int .i64 n) (.slice fa fm fc);rw [World.size_alloc] at hz;refine ⟨((af.refl _ w).alloc _).alloc _,?_,?_,hz.1,hz.2⟩
 ·rw [World.cell?_alloc_lt _ _ _ (by simp)];exact hy.1
 ·rw [World.cell?_alloc_lt _ _ _ (by simp)];exact hy.2
theorem Ot {n:Nat} {w:World} {fa:Option Addr} {fm fc:Nat} {ta:Option Addr} {tm tc:Nat} :
  GV n w ((w.alloc (.cells #[.int .i64 n,.slice ta tm tc] 121 (0,0))).alloc (.cells #[.int .i64 n,.slice fa fm fc] 121 (0,0))) (w.heap.size+1) w.heap.size fa fm fc ta tm tc:=by
 obtain ⟨h1,h2,h3,h4,h5⟩:=JR (n:=n) (w:=w) (fa:=ta) (fm:=tm) (fc:=tc) (ta:=fa) (tm:=fm) (tc:=fc);exact ⟨h1.mono fun x hx=>by simp only [List.mem_cons,List.not_mem_nil,or_false] at hx ⊢;exact hx.symm,h4,h5,h2,h3⟩
theorem JS {u:TV} {x n:Nat} {w V1 w3 V2 w4 wc:World} {A B:Nat} {fa:Option Addr} {fm fc:Nat} {ta:Option Addr} {tm tc:Nat}
  (h1:lU V1 w3 (.slice fa fm fc) (bG u x false)) (h2:lU V2 w4 (.slice ta tm tc) (bG u x true)) (u2:af [] w3 w4) (u4:af [] w w4)
  (hq:GV n w4 wc A B fa fm fc ta tm tc)
  (hs:w.heap.size<=V1.heap.size/\w.heap.size<=V2.heap.size/\(A<V1.heap.size\/w3.heap.size<=A)/\(B<V1.heap.size\/w3.heap.size<=B)/\(A<V2.heap.size\/w4.heap.size<=A)/\(B<V2.heap.size\/w4.heap.size<=B)/\w.heap.size<=A/\w.heap.size<=B) :
  JO u x n w (.pointer (some ⟨A,0,none⟩)) (.pointer (some ⟨B,0,none⟩)) wc:=by
 obtain ⟨hc,cA0,cA1,cB0,cB1⟩:=hq;obtain ⟨hZ,hZ2,ZR,ZT,hA2,hB2,hA,hB⟩:=hs;refine ⟨A,B,fa,fm,fc,ta,tm,tc,rfl,rfl,hA,hB,cA0,cA1,cB0,cB1,?_,?_,?_⟩
 ·refine ⟨h1.ok,bW (ah h1.row fun k hk=>?_) hZ⟩
  ·have hl:=h1.row.lt k hk
   refine (hc.block k (Nat.lt_of_lt_of_le hl.2 u2.size) ?_).trans (u2.block k hl.2 (by simp))
   simp only [List.mem_cons,List.not_mem_nil,or_false,not_or]
   omega
 ·refine ⟨h2.ok,bW (ah h2.row fun k hk=>?_) hZ2⟩
  ·have hl:=h2.row.lt k hk
   refine hc.block k hl.2 ?_
   simp only [List.mem_cons,List.not_mem_nil,or_false,not_or]
   omega
 ·exact u4.then hc fun k hk=>by
   simp only [List.mem_cons,List.not_mem_nil,or_false] at hk
   right;rcases hk with rfl | rfl <;> assumption
theorem Ef (n0:Nat) (Z:List Nat) (v:Value) (L:List TV) (x:Nat) (w:World) (h:eF w n0 Z v L) (hZ:∀ k,k∈Z->k<w.heap.size) (hl:L.length<=536870912) (hx:∀ t,t∈L->x<t.n) (_hx6:x<64) :
  Calls Tryz.prog 179 #[v,.int .i64 x] w fun e w'=>Yo Z (bg L x) w e w':=by
 obtain ⟨ti,dP,dX,dV,dW⟩:=info_parts Tryz.infoTable;have HI:=Lib.hid (And.intro dP (And.intro dX (And.intro dV dW)));obtain ⟨fa,fc,rfl,Eb⟩:=h.form;have HL:=Lib.hid h;have HZ:=Lib.hid hZ;have HX:=Lib.hid hx;clear h hZ dP dX dV dW hx
 go_enter Tryz.func179,Tryz.ntmps179
 go_wp2_with fail
 go_loopg [5,12] L.length (fun g s3 s8 wr=>∃ i:Nat,L.length-i=g/\i<=L.length/\s8=.int .i64 i/\eF wr w.heap.size Z s3 (bg (L.take i) x)/\af [] w wr)
 case atStart=>exact ⟨0,by omega,by omega,rfl,by simpa [bg] using eF.nil w w.heap.size Z,af.refl _ _⟩
 case round =>
  obtain ⟨i,rfl,hi,rfl,hT,hU⟩:=hrel
  by_cases aZ:i<L.length
  ·obtain ⟨u,hu⟩ : ∃ u,L[i]?=some u:=⟨_,List.getElem?_eq_getElem aZ⟩
   obtain ⟨ga,rfl⟩:=Eb (by omega);obtain ⟨cu,x0,x1,lQ⟩:=(HL.out.keep0 hU).at_ hu;obtain ⟨ua,uc,GU,_⟩:=fP lQ.row;subst GU;obtain ⟨oa,oc,jK,_⟩:=hT.form;subst jK
   have fE:(i:Int)<(L.length:Int):=by omega
   have Bz:(bg (L.take i) x).length<=1073741824:=by
    have:=oC (L.take i) x
    rw [List.length_take] at this;omega
   have HS:Hid (bg (L.take (i+1)) x=addT (addT (bg (L.take i) x) (bG u x false)) (bG u x true)):=by
    show _=_
    rw [List.take_add_one,hu];exact BB _ _ _
   generalize bg (L.take i) x=UL at *;have Ou:=Lib.hid (And.intro hT hU);obtain ⟨z0,z1⟩:=jc wr (.int .i64 u.n) (.slice ua u.ws.length uc)
   have Yp:Hid (∀ k,k∈Z->k<wr.heap.size):=fun k hk=>Nat.lt_of_lt_of_le (HZ.out k hk) hU.size
   have pM:=(af.refl [] wr).alloc (.cells #[.int .i64 u.n,.slice ua u.ws.length uc] 121 (0,0));have Ec:=Lib.hid (And.intro (hT.keep0 pM) (And.intro (lQ.keep0 pM) (hU.trans pM)));have HXU:=Lib.hid (HX.out u (List.mem_of_getElem? hu));generalize Ed:u.ws.length=UW at *;generalize qB:u.n=un at *;have FI:=Lib.hid (And.intro Ed qB)
   have HC:Hid (∀ (W:World) (b:Bool),af [] (wr.alloc (.cells #[.int .i64 un,.slice ua UW uc] 121 (0,0))) W->Calls Tryz.prog 116 #[.agg #[.int .i64 un,.slice ua UW uc],.int .i64 x,.bool b] W fun e w'=>RG u x b un W e w'):=fun W b hW=>by
    have:=pI Z (.slice ua UW uc) u x b W (Ec.out.2.1.keep0 hW) (by rw [qB];exact HXU.out);unfold bK at this;rw [qB] at this
    exact this.mono fun e w' h=>.of h qB
   clear lQ hT hU hu pM Ed qB;go_upto_region 5 with fail
   go_cut [8,9,12] from 12 to 38 (fun s8 s9 s12 wc=>s12=.int .i64 i/\JO u x un wr s8 s9 wc)
   case first =>
    go_region_held3 (fun w'=>w'.cell? ⟨wr.heap.size,0,none⟩=some (.int .i64 un)/\w'.cell? ⟨wr.heap.size,1,none⟩=some (.slice ua UW uc)) (exact bH (by repeat' (first | exact zA.out | exact iH.out | exact af.refl _ _ | refine af.setCell ?_ (Or.inr (by (try have q1:=iH.out.size);(try have q2:=zA.out.size);simp only [World.size_alloc] at *;omega)) _ | refine af.alloc ?_ _ | refine af.drew ?_)) ⟨z0,z1⟩) (first | (go_at_call_of 116 (Value.bool false);refine (HC.out _ false (by first | exact (af.refl [] _).drew | exact ((af.refl [] _).drew).alloc _ | exact (((af.refl [] _).drew).alloc _).alloc _)).mono ?_;rintro e w3 hE;obtain ⟨fA,fM,fC,rfl,hTf,Dx⟩:=hE.ex;have iH:Hid (af [] (wr.alloc (.cells #[.int .i64 un,.slice ua UW uc] 121 (0,0))) w3):=(by first | exact ((af.refl [] _).drew).trans Dx | exact (((af.refl [] _).drew).alloc _).trans Dx | exact ((((af.refl [] _).drew).alloc _).alloc _).trans Dx);(try (have ZA:lV w3 (wr.heap.size+1):=by first | exact ig (af.of_drew Dx) (by show (wr.alloc _).heap.size=_;rw [World.size_alloc]) | exact ig Dx (by show (wr.alloc _).heap.size=_;rw [World.size_alloc]) | exact ig (((af.refl [] _).alloc _).trans (af.of_drew Dx)) (by show (wr.alloc _).heap.size=_;rw [World.size_alloc]) | exact ig (((af.refl [] _).alloc _).trans Dx) (by show (wr.alloc _).heap.size=_;rw [World.size_alloc])));(try (have ZB:lV w3 (wr.heap.size+1+1):=by first | exact ig (af.of_drew Dx) (by show ((wr.alloc _).alloc _).heap.size=_;rw [World.size_alloc,World.size_alloc]) | exact ig Dx (by show ((wr.alloc _).alloc _).heap.size=_;rw [World.size_alloc,World.size_alloc])));obtain ⟨v0,v1⟩:=bH iH.out ⟨z0,z1⟩;(try (have NA:¬ (wr.heap.size+1=w3.heap.size):=Nat.ne_of_lt (lV.lt (by assumption));have NA':=Ne.symm NA));(try (have NB:¬ (wr.heap.size+1+1=w3.heap.size):=Nat.ne_of_lt (lV.lt (by assumption));have NB':=Ne.symm NB));have HTF:=Lib.hid (And.intro hTf Dx);clear hE;(try clear hTf);(try clear Dx)) | (go_at_call_of 116 (Value.bool true);refine (HC.out _ true (by first | exact iH.out | exact iH.out.alloc _ | exact (iH.out.alloc _).alloc _)).mono ?_;rintro e w4 hE;obtain ⟨tA,tM,tC,rfl,hTt,P5⟩:=hE.ex;have dF:Hid (af [] w3 w4):=(by first | exact P5 | exact ((af.refl [] _).alloc _).trans P5 | exact (((af.refl [] _).alloc _).alloc _).trans P5);have zA:=Lib.hid (iH.out.trans dF.out);(try (have YA:lV w4 (wr.heap.size+1):=by exact yG dF.out (by assumption)));(try (have YB:lV w4 (wr.heap.size+1+1):=by exact yG dF.out (by assumption)));(try (have YC:lV w4 w3.heap.size:=by first | exact ig P5 rfl | exact ig (((af.refl [] _).alloc _).trans P5) rfl));(try (have YD:lV w4 (w3.heap.size+1):=by exact ig P5 (by rw [World.size_alloc])));(try obtain ⟨ya0,ya1,ya2,ya3,ya4⟩:=YA);(try obtain ⟨yb0,yb1,yb2,yb3,yb4⟩:=YB);(try obtain ⟨yc0,yc1,yc2,yc3,yc4⟩:=YC);(try obtain ⟨yd0,yd1,yd2,yd3,yd4⟩:=YD);obtain ⟨u0,u1⟩:=bH dF.out ⟨v0,v1⟩;have Yq:=Lib.hid (And.intro hTt P5);clear hE;(try clear hTt);(try clear P5)))
    all_goals go_wp2_with fail
    all_goals go_meet
    all_goals (refine ⟨rfl,JS HTF.out.1 Yq.out.1 dF.out (((af.refl [] wr).alloc _).trans zA.out) ?_ ?_⟩)
    all_goals (first | exact JR | exact Ot | exact JQ ⟨by assumption,by assumption,by assumption,by assumption,by assumption⟩ | exact RI ⟨by assumption,by assumption,by assumption,by assumption,by assumption⟩ | exact RH ⟨by assumption,by assumption,by assumption,by assumption,by assumption⟩ ⟨by assumption,by assumption,by assumption,by assumption,by assumption⟩ (by first | assumption | simp) | skip)
    all_goals (have q1:=HTF.out.2.size;have q2:=Yq.out.2.size;have q3:=iH.out.size;simp only [World.size_alloc,JP] at q1 q2 q3 ⊢)
    all_goals (refine ⟨by omega,by omega,by omega,by omega,by omega,by omega,by omega,by omega⟩)
   case rest =>
    obtain ⟨rfl,hG⟩:=hcut;obtain ⟨A,B,fA,fM,fC,tA,tM,tC,rfl,rfl,hA,hB,a0,a1,b0,b1,UJ,RJ,hu⟩:=hG.ex;have HAB:=Lib.hid (And.intro hA hB);have ZU:=Ou.out.1.keep0 hu;have rO:=Lib.hid (And.intro UJ (UJ.tin Yp.out));have ZV:=Lib.hid (And.intro RJ (RJ.tin Yp.out));have ui:=Lib.hid (zq w.heap.size Z (.slice oa UL.length oc) UL (.slice fA fM fC) (bG u x false) wc ZU rO.out.2 (by omega));have RN:Hid ((bG u x false).n=un/\(bG u x true).n=un):=⟨FI.out.2,FI.out.2⟩;have oD:=Lib.hid RN.out.2;have HU:=Lib.hid (And.intro hu (Ou.out.2.trans hu));have Ji:=Lib.hid ZU;unfold bK at ui;rw [RN.out.1] at ui;generalize bG u x false=ta at *;generalize bG u x true=tb at *;clear hA hB UJ RJ hu ZU hG HC z0 z1
    go_upto_if 25 with (go_at_call 99;refine ui.out.mono ?_;rintro e w3 ⟨rfl,eu⟩;obtain ⟨a0,a1⟩:=bH eu ⟨a0,a1⟩;obtain ⟨b0,b1⟩:=bH eu ⟨b0,b1⟩;have jQ:=Lib.hid eu;clear eu)
    go_cut [5,12] from 12 to 38 (fun s5 s12 wx=>s12=.int .i64 i/\zy Z (addT UL ta) tb un w wr B tA tM tC s5 wx)
    case first =>
     by_cases e:ta∈UL
     ·rw [decide_eq_true e]
      have HE:Hid (zy Z (addT UL ta) tb un w wr B tA tM tC (.slice oa UL.length oc) w3):=by
       rw [uM e];exact ⟨Ji.out.keep0 jQ.out,ZV.out.1.keep jQ.out,b0,b1,HU.out.2.trans jQ.out⟩
      clear e;go_wp2_with fail;go_meet;exact ⟨rfl,HE.out⟩
     ·rw [decide_eq_false e]
      obtain ⟨xs,aB⟩:=(Ji.out.keep0 jQ.out).row;obtain ⟨xs0,P6⟩:=Ou.out.1.row;have bQ:=Lib.hid (And.intro aB P6)
      have lH:Hid (∀ z,z∈[Value.int .i64 un,Value.slice fA fM fC]->z.oneCell'=true):=by
       intro z hz;simp at hz;rcases hz with rfl | rfl <;> rfl
      have zx:=(HU.out.2.trans jQ.out).size
      have uj:w.heap.size<=(w3.alloc (.cells #[.int .i64 un,.slice fA fM fC] 121 (0,0))).heap.size:=by rw [World.size_alloc];omega
      have Ov:Hid (ta∉UL):=e;have FK:Hid (w3.cell? ⟨B,0,none⟩=some (.int .i64 un)/\w3.cell? ⟨B,1,none⟩=some (.slice tA tM tC)):=⟨b0,b1⟩;clear e HS aB P6
      go_wp2_with (at_builtin;go_must (refine wpList_append_lies _ rfl (.tmp 26) (.tmp 28) 22 rfl w.heap.size 121 ti _ 2 32 Tryz.underlying22 HI.out.1 HI.out.2.1 HI.out.2.2.1 HI.out.2.2.2 (by rfl) (by decide) _ UL.length xs rfl (bQ.out.1.alloc _) ⟨w3.heap.size,0,none⟩ 1 1 [.int .i64 un,.slice fA fM fC] rfl rfl ?c1 lH.out (by omega) (by unfold maxLen;omega) (by omega) uj _ rfl ?_))
      case c1=>exact World.news_of_block (heap_alloc_new w3 (.cells #[.int .i64 un,.slice fA fM fC] 121 (0,0)))
      intro g5 cap w5 aJ bU bI jd
      have HE:Hid (zy Z (addT UL ta) tb un w wr B tA tM tC (.slice (some ⟨g5,0,none⟩) (UL.length+1) cap) w5):=by
       rw [zt Ov.out];have hp:=(Ji.out.keep0 jQ.out).push (rO.out.2.keep0 jQ.out) (by omega) HZ.out bU bQ.out.1 (by rw [RN.out.1];exact aJ)
       have hS:=hp.2 (Value.slice oa UL.length oc).ownBlock.toList fun k hk=>.inl (by rw [hk];simp)
       have RP:∀ k,wr.heap.size<=k->k∉(Value.slice oa UL.length oc).ownBlock.toList:=fun k hk hm=>by
        have Jj:(Value.slice oa UL.length oc).ownBlock=some k:=by simpa using hm
        have:=(bQ.out.2.lt k Jj).2;omega
       have jk:B<w3.heap.size:=World.block_lt_of_cell? _ _ FK.out.1;have NR:=ZV.out.1.keep jQ.out;refine ⟨hp.1,⟨NR.ok,ah NR.row fun k hk=>hS.block k (NR.row.lt k hk).2 (RP k (NR.row.lt k hk).1)⟩,(hS.cell (a:=⟨B,0,none⟩) jk (RP B HAB.out.2)).trans FK.out.1,(hS.cell (a:=⟨B,1,none⟩) jk (RP B HAB.out.2)).trans FK.out.2,?_⟩
       refine (HU.out.2.trans jQ.out).then hS fun k hk=>.inr ?_
       have dD:(Value.slice oa UL.length oc).ownBlock=some k:=by simpa using hk
       exact (bQ.out.2.lt k dD).1
      clear aJ bU bI jd;go_wp2_with fail;go_meet;exact ⟨rfl,HE.out⟩
    case rest =>
     obtain ⟨rfl,hG⟩:=hcut;obtain ⟨Yr,RJ,b0,b1,xB⟩:=hG
     have hVL:(addT UL ta).length<=1073741824+1:=by have:=pK UL ta;omega
     clear Ji rO ZV ui jQ HU Ou a0 a1 Ec RN;generalize addT UL ta=VL at *;obtain ⟨va,vc,rfl,_⟩:=Yr.form;have ui:=Lib.hid (zq w.heap.size Z (.slice va VL.length vc) VL (.slice tA tM tC) tb wc Yr (RJ.tin Yp.out) (by omega));have Ji:=Lib.hid (And.intro Yr (And.intro (RJ.tin Yp.out) xB));unfold bK at ui;rw [oD.out] at ui;clear Yr RJ xB;go_wp2_with fail;refine ui.out.mono ?_;rintro e w3 ⟨rfl,eu⟩;obtain ⟨b0,b1⟩:=bH eu ⟨b0,b1⟩;have lS:=Lib.hid (And.intro (Ji.out.1.keep0 eu) (And.intro (Ji.out.2.1.keep0 eu) (Ji.out.2.2.trans eu)));clear eu ui Ji
     by_cases e:tb∈VL
     ·rw [decide_eq_true e]
      have HN:Hid (bg (L.take (i+1)) x=VL):=by rw [HS.out,uM e];exact rfl
      clear e HS;go_wp2_with fail
      go_roundg (L.length-(i+1))
      case measure=>omega
      case rel=>exact ⟨i+1,rfl,by omega,by simp,by rw [HN.out];exact lS.out.1,lS.out.2.2⟩
     ·rw [decide_eq_false e]
      have HN:Hid (bg (L.take (i+1)) x=VL++[tb]):=by rw [HS.out,zt e];exact rfl
      obtain ⟨xs,aB⟩:=lS.out.1.row;have bQ:=Lib.hid aB
      have lH:Hid (∀ z,z∈[Value.int .i64 un,Value.slice tA tM tC]->z.oneCell'=true):=by
       intro z hz;simp at hz;rcases hz with rfl | rfl <;> rfl
      have zx:=lS.out.2.2.size
      have uj:w.heap.size<=(w3.alloc (.cells #[.int .i64 un,.slice tA tM tC] 121 (0,0))).heap.size:=by rw [World.size_alloc];omega
      clear e HS aB
      go_wp2_with (at_builtin;go_must (refine wpList_append_lies _ rfl (.tmp 34) (.tmp 36) 22 rfl w.heap.size 121 ti _ 2 32 Tryz.underlying22 HI.out.1 HI.out.2.1 HI.out.2.2.1 HI.out.2.2.2 (by rfl) (by decide) _ VL.length xs rfl (bQ.out.alloc _) ⟨w3.heap.size,0,none⟩ 1 1 [.int .i64 un,.slice tA tM tC] rfl rfl ?c1 lH.out (by omega) (by unfold maxLen;omega) (by omega) uj _ rfl ?_))
      case c1=>exact World.news_of_block (heap_alloc_new w3 (.cells #[.int .i64 un,.slice tA tM tC] 121 (0,0)))
      intro g5 cap w5 aJ bU bI jd
      have HE:Hid (eF w5 w.heap.size Z (.slice (some ⟨g5,0,none⟩) (VL.length+1) cap) (VL++[tb])/\af [] w w5):=by
       have hp:=lS.out.1.push lS.out.2.1 (by omega) HZ.out bU bQ.out (by rw [oD.out];exact aJ);refine ⟨hp.1,lS.out.2.2.then (hp.2 (Value.slice va VL.length vc).ownBlock.toList fun k hk=>.inl (by rw [hk];simp)) fun k hk=>.inr ?_⟩
       have dD:(Value.slice va VL.length vc).ownBlock=some k:=by simpa using hk
       exact (bQ.out.lt k dD).1
      clear aJ bU bI jd;go_wp2_with fail
      go_roundg (L.length-(i+1))
      case measure=>omega
      case rel=>exact ⟨i+1,rfl,by omega,by simp,by rw [HN.out];exact HE.out.1,HE.out.2⟩
  ·obtain rfl:i=L.length:=by omega
   have fE:¬ ((L.length:Int)<(L.length:Int)):=by omega
   have HE:Hid (eF wr w.heap.size Z _ (bg L x)/\af [] w wr):=⟨by rw [List.take_length] at hT;exact hT,hU⟩;clear hT hU;go_wp2_with fail;go_ret;exact ⟨_,rfl,HE.out⟩
theorem Tryz.infoTabs:(Tryz.prog.info? 22).map (fun i=>(i.zero,i.size,i.bytes))=some (some (.slice none 0 0),1,24):=by kernel_rfl
def jv (c:List TV) (o:List Nat):List TV:=o.foldl bg c
def dZ:List TV->List Nat->List (List TV)
 | _,[]=>[]
 | c,v::o=>cZ c v::dZ (bg c v) o
theorem GX (c:List TV) (o:List Nat) (v:Nat):jv c (o++[v])=bg (jv c o) v:=by unfold jv;rw [List.foldl_append];rfl
theorem GY (c:List TV) (o:List Nat) (v:Nat):dZ c (o++[v])=dZ c o++[cZ (jv c o) v]:=by
 induction o generalizing c with
 | nil=>rfl
 | cons a o ih=>simp only [List.cons_append,dZ,ih];rfl
theorem mF (c:List TV) (o:List Nat):(dZ c o).length=o.length:=by
 induction o generalizing c with
 | nil=>rfl
 | cons a o ih=>simp [dZ,ih]
theorem JU (c:List TV) (o:List Nat):(jv c o).length<=2 ^ o.length*c.length:=by
 induction o generalizing c with
 | nil=>simp [jv]
 | cons a o ih =>
  have h1:=ih (bg c a);have h2:=oC c a;have h3:jv c (a::o)=jv (bg c a) o:=rfl;rw [h3,List.length_cons,Nat.pow_succ]
  calc _<=2 ^ o.length*(bg c a).length:=h1
   _<=2 ^ o.length*(2*c.length):=Nat.mul_le_mul_left _ h2
   _=_:=by rw [Nat.mul_assoc]
theorem uN {l:List TV} {t u:TV}:u∈addT l t↔u∈l\/u=t:=by
 unfold addT;split
 ·constructor
  ·exact .inl
  ·rintro (h | rfl);exact h;assumption
 ·simp
theorem dK {L:List TV} {u:TV}:u∈aP L↔u∈L:=by
 have key:∀ (L l:List TV),u∈L.foldl addT l↔u∈l\/u∈L:=by
  intro L
  induction L with
  | nil=>intro l;simp
  | cons a L ih=>intro l;rw [List.foldl_cons,ih,uN,List.mem_cons,or_assoc]
 simpa [aP] using key L []
theorem iI {L:List TV} {v:Nat} {u:TV}:u∈bg L v↔∃ t,t∈L/\∃ b,u=bG t v b:=by
 have key:∀ (L l:List TV),u∈L.foldl (fun l t=>addT (addT l (bG t v false)) (bG t v true)) l↔u∈l\/∃ t,t∈L/\∃ b,u=bG t v b:=by
  intro L
  induction L with
  | nil=>intro l;simp
  | cons a L ih =>
   intro l
   rw [List.foldl_cons,ih,uN,uN];constructor
   ·rintro (((h | h) | h) | ⟨t,h,b,e⟩)
    ·exact .inl h
    ·exact .inr ⟨a,by simp,_,h⟩
    ·exact .inr ⟨a,by simp,_,h⟩
    ·exact .inr ⟨t,by simp [h],b,e⟩
   ·rintro (h | ⟨t,h,b,e⟩)
    ·exact .inl (.inl (.inl h))
    ·rcases List.mem_cons.1 h with rfl | h
     ·cases b
      ·exact .inl (.inl (.inr e))
      ·exact .inl (.inr e)
     ·exact .inr ⟨t,h,b,e⟩
 simpa [bg] using key L []
theorem RQ {c:List TV} {n:Nat} (h:∀ t,t∈c->t.n=n) (o:List Nat):∀ t,t∈jv c o->t.n=n:=by
 induction o generalizing c with
 | nil=>exact h
 | cons a o ih =>
  refine ih fun t ht=>?_
  obtain ⟨u,hu,b,rfl⟩:=iI.1 ht;exact h u hu
structure qC (w:World) (n0:Nat) (Z:List Nat) (v:Value) (L:List (List TV)):Prop where
 ex:∃ cs:List Value,cs.length=L.length/\w.ownsRow n0 22 1 v L.length cs/\∀ (i:Nat) (l:List TV) (c:Value),L[i]?=some l->cs[i]?=some c->eF w n0 Z c l
 fr:∀ k,v.ownBlock=some k->k∉Z
theorem qC.row {w:World} {n0:Nat} {Z:List Nat} {v:Value} {L:List (List TV)} (h:qC w n0 Z v L):∃ xs,w.ownsRow n0 22 1 v L.length xs:=by
 obtain ⟨cs,_,hr,_⟩:=h.ex;exact ⟨_,hr⟩
theorem qC.keep {w w':World} {n0:Nat} {Z S:List Nat} {v:Value} {L:List (List TV)} (h:qC w n0 Z v L) (u:af S w w') (hS:∀ k,k∈S->k∈Z\/w.heap.size<=k):qC w' n0 Z v L:=by
 obtain ⟨cs,h1,h2,h3⟩:=h.ex;refine ⟨⟨cs,h1,ah h2 fun k hk=>u.block k (h2.lt k hk).2 fun hm=>?_,fun i t c ht hc=>(h3 i t c ht hc).keep u hS⟩,h.fr⟩
 rcases hS k hm with h4 | h4
 ·exact h.fr k hk h4
 ·have:=(h2.lt k hk).2;omega
theorem qC.keep0 {w w':World} {n0:Nat} {Z:List Nat} {v:Value} {L:List (List TV)} (h:qC w n0 Z v L) (u:af [] w w'):qC w' n0 Z v L:=h.keep u (by simp)
theorem qC.base {w:World} {n0 n1:Nat} {Z:List Nat} {v:Value} {L:List (List TV)} (h:qC w n0 Z v L) (hn:n1<=n0):qC w n1 Z v L:=by
 obtain ⟨cs,h1,h2,h3⟩:=h.ex;exact ⟨⟨cs,h1,bW h2 hn,fun i t c ht hc=>(h3 i t c ht hc).base hn⟩,h.fr⟩
theorem qC.nil (w:World) (n0:Nat) (Z:List Nat):qC w n0 Z (.slice none 0 0) []:=⟨⟨[],rfl,World.ownsRow_nil _ _ _ _,fun i t c h=>by simp at h⟩,fun k hk=>by simp [Value.ownBlock] at hk⟩
theorem qC.form {w:World} {n0:Nat} {Z:List Nat} {v:Value} {L:List (List TV)} (h:qC w n0 Z v L):∃ (a:Option Addr) (c:Nat),v=.slice a L.length c/\(0<L.length->∃ g,a=some ⟨g,0,none⟩):=by
 obtain ⟨xs,hr⟩:=h.row;obtain ⟨a,c,hv,hh⟩:=aC hr;refine ⟨a,c,hv,fun hp=>?_⟩
 rcases hh with ⟨_,h0,_⟩ | hh
 ·omega
 ·exact hh
theorem qC.at_ {w:World} {n0 n' cp g:Nat} {Z:List Nat} {L:List (List TV)} (h:qC w n0 Z (.slice (some ⟨g,0,none⟩) n' cp) L) {i:Nat} {l:List TV} (ht:L[i]?=some l) :
  ∃ c,w.cell? ⟨g,i,none⟩=some c/\eF w n0 Z c l:=by
 obtain ⟨cs,h1,h2,h3⟩:=h.ex
 have fE:i<L.length:=by
  by_cases e:i<L.length
  ·exact e
  ·rw [List.getElem?_eq_none (by omega)] at ht;cases ht
 have hc:cs[i]?=some (cs[i]'(by omega)):=List.getElem?_eq_getElem (by omega);exact ⟨_,ax h2 hc,h3 i l _ ht hc⟩
theorem bC {w:World} {base:Nat} {e:TypeId} {sz n:Nat} {v:Value} {xs:List Value} (h:w.ownsRow base e sz v n xs) {k:Nat} (hk:v.ownBlock=some k) :
  ∃ cs fr,w.heap[k]?=some (.cells cs e fr):=by
 obtain ⟨_,(⟨e1,_⟩ | ⟨g,jL,Oq,e1,hg,hh,_⟩)⟩:=h
 ·rw [e1] at hk;simp [Value.ownBlock] at hk
 ·rw [e1] at hk
  simp [Value.ownBlock] at hk
  subst hk;exact ⟨_,_,hh⟩
theorem eF.other {w w':World} {n0:Nat} {Z:List Nat} {v:Value} {L:List TV} (h:eF w n0 Z v L) {k0:Option Nat} (u:af k0.toList w w') (h0:∀ k,k0=some k->∃ cs fr,w.heap[k]?=some (.cells cs 22 fr)) (hz:∀ k,k0=some k->(∃ z,z∈Z)->∃ z,z∈Z/\z<=k):eF w' n0 Z v L:=by
 obtain ⟨cs,h1,h2,h3⟩:=h.ex
 have far:∀ {e:TypeId} {k:Nat},e≠22->(∃ cs fr,w.heap[k]?=some (.cells cs e fr))->k∉k0.toList:=fun {e k} hne hh hm=>by
  have hk:k0=some k:=by simpa using hm
  obtain ⟨c1,f1,e1⟩:=hh;obtain ⟨c2,f2,e2⟩:=h0 k hk;rw [e1] at e2
  injection e2 with e2
  injection e2 with _ e2 _
  exact hne e2
 refine ⟨⟨cs,h1,ah h2 fun k hk=>u.block k (h2.lt k hk).2 (far (by decide) (bC h2 hk)),fun i t c ht hc=>?_⟩,h.fr⟩;have zB:=h3 i t c ht hc
 exact ⟨zB.ok,zB.row.kp fun k hk=>u.block k (zB.row.lt k hk).2 fun hm=>by
  have P7:k0=some k:=by simpa using hm
  obtain ⟨c2,f2,e2⟩:=h0 k P7
  exact zB.nb e2 (by decide) (hz k P7) hk,zB.fr⟩
theorem qC.push {w w5:World} {n0 g5 cap:Nat} {Z:List Nat} {v c:Value} {L:List (List TV)} {l:List TV} {X:Obj} (h:qC w n0 Z v L) (ht:eF w n0 Z c l) (hZ:∀ k,k∈Z->k<n0)
  (bU:(w.alloc X).grownBy w5 v.ownBlock) {xs:List Value} (aB:w.ownsRow n0 22 1 v L.length xs) (aJ:w5.ownsRow n0 22 1 (.slice (some ⟨g5,0,none⟩) (L.length+1) cap) (L.length+1) (xs++[c])) :
  qC w5 n0 Z (.slice (some ⟨g5,0,none⟩) (L.length+1) cap) (L++[l])/\af v.ownBlock.toList w w5:=by
 obtain ⟨cs,h1,h2,h3⟩:=h.ex
 obtain rfl:xs=cs:=by
  obtain ⟨e1,c1⟩:=aB;obtain ⟨e2,c2⟩:=h2
  rcases c1 with ⟨rfl,h0⟩ | ⟨g,jL,Oq,rfl,hg,hh,_,_,_,k1⟩
  ·rcases c2 with ⟨_,_⟩ | ⟨g,gV,cur2,e,_⟩
   ·have a1:xs.length=0:=by rw [e1,h0]
    have a2:cs.length=0:=by rw [e2,h0]
    rw [List.length_eq_zero_iff.1 a1,List.length_eq_zero_iff.1 a2]
   ·simp at e
  ·rcases c2 with ⟨e,_⟩ | ⟨g',gV,cur2,e,hg',NQ,_,_,_,k2⟩
   ·simp at e
   ·simp at e
    obtain ⟨rfl,_⟩:=e
    rw [hh] at NQ;cases NQ
    rw [<- k1,<- k2]
 have hu:af v.ownBlock.toList w w5:=((af.refl _ w).alloc X).grown bU fun k hk=>.inl (by rw [hk];simp)
 have keep:∀ {m:List TV} {d:Value},eF w n0 Z d m->eF w5 n0 Z d m:=fun {m d} hd=>hd.other hu (fun k hk=>bC aB hk) fun k hk ⟨z,hz⟩=>⟨z,hz,by have h1:=hZ z hz;have h2:=(aB.lt k hk).1;omega⟩
 refine ⟨⟨⟨xs++[c],by simp [h1],by rw [List.length_append,List.length_singleton];exact aJ,fun i u d iF hd=>?_⟩,fun k hk hm=>?_⟩,hu⟩
 ·by_cases hi:i<L.length
  ·rw [List.getElem?_append_left hi] at iF
   rw [List.getElem?_append_left (by omega)] at hd;exact keep (h3 i u d iF hd)
  ·rw [List.getElem?_append_right (by omega)] at iF
   rw [List.getElem?_append_right (by omega),h1] at hd
   cases e:i-L.length with
   | zero=>rw [e] at iF hd;simp at iF hd;subst iF hd;exact keep ht
   | succ j=>rw [e] at iF;simp at iF
 ·have h4:=(aJ.lt k hk).1
  have h5:=hZ k hm;omega
structure VC (Z:List Nat) (L:List (List TV)) (w:World) (e:Ending) (w':World):Prop where
 ex:∃ v:Value,e=.returned v/\qC w' w.heap.size Z v L/\af [] w w'
theorem mG (n0 n1:Nat) (Z:List Nat) (v vo:Value) (L:List TV) (o:List Nat) (n:Nat) (w:World) (h:eF w n0 Z v L) (hZ:∀ k,k∈Z->k<w.heap.size) (hl:L.length<=4194304)
  (hn:∀ t,t∈L->t.n=n) (Yt:n<=8) (ho:w.ownsRow n1 3 1 vo o.length (aK o)) (zC:o.length<=8) (FM:∀ x,x∈o->x<n) :
  Calls Tryz.prog 131 #[v,vo] w fun e w'=>VC Z (dZ (aP L) o) w e w':=by
 obtain ⟨ti,dP,dX,dV,dW⟩:=info_parts Tryz.infoTabs;have HI:=Lib.hid (And.intro dP (And.intro dX (And.intro dV dW)));have HZ:=Lib.hid hZ;have FI:=Lib.hid (rM n0 Z v L w h hZ (by omega))
 have HN:Hid (∀ t,t∈aP L->t.n=n):=fun t ht=>hn t (dK.1 ht)
 have Yu:=Lib.hid FM;have Bz:(aP L).length<=4194304:=Nat.le_trans (eG L) hl;obtain ⟨oa,oc,rfl,hof⟩:=aC ho;have HO:=Lib.hid ho;generalize aP L=C at *;clear h hZ dP dX dV dW hn ho FM hl
 go_enter Tryz.func131,Tryz.ntmps131
 go_wp2_with fail;refine FI.out.mono ?_;rintro e w1 hE;obtain ⟨cv,rfl,hC,fF⟩:=hE.ex;have HC:=Lib.hid (And.intro hC fF);clear hC fF hE FI;go_wp2_with fail
 go_loopg [5,6,13] o.length (fun g s5 s6 s13 wr=>∃ i:Nat,o.length-i=g/\i<=o.length/\s13=.int .i64 i/\qC wr w.heap.size Z s5 (dZ C (o.take i))/\eF wr w.heap.size Z s6 (jv C (o.take i))/\af [] w wr)
 case atStart=>exact ⟨0,by omega,by omega,rfl,by simpa [dZ] using qC.nil w1 w.heap.size Z,by simpa [jv] using HC.out.1,HC.out.2⟩
 case round =>
  obtain ⟨i,rfl,hi,rfl,hT,hc,hU⟩:=hrel
  by_cases aZ:i<o.length
  ·obtain ⟨x,hx⟩ : ∃ x,o[i]?=some x:=⟨_,List.getElem?_eq_getElem aZ⟩
   obtain ⟨ga,rfl⟩:=bY HO.out (by omega);have JV:=Yu.out x (List.mem_of_getElem? hx);have x0:wr.cell? ⟨ga,i,none⟩=some (.int .i64 x):=ax (ah HO.out fun k hk=>hU.block k (HO.out.lt k hk).2 (by simp)) (by simp [aK,hx]);obtain ⟨aa,ac,VD,_⟩:=hT.form;subst VD;obtain ⟨ca,cc,ZW,_⟩:=hc.form;subst ZW
   have fE:(i:Int)<(o.length:Int):=by omega
   have Ox:=RQ HN.out (o.take i)
   have Dy:(jv C (o.take i)).length<=536870912:=by
    have h1:=JU C (o.take i)
    have h2:(2:Nat) ^ (o.take i).length<=128:=by
     have:(o.take i).length<=7:=by rw [List.length_take];omega
     calc 2 ^ (o.take i).length<=2 ^ 7:=Nat.pow_le_pow_right (by omega) this
      _=128:=rfl
    calc _<=_:=h1
     _<=128*4194304:=Nat.mul_le_mul h2 Bz
     _=_:=rfl
   have HS:Hid (dZ C (o.take (i+1))=dZ C (o.take i)++[cZ (jv C (o.take i)) x]/\jv C (o.take (i+1))=bg (jv C (o.take i)) x):=by
    show _/\_
    rw [List.take_add_one,hx];exact ⟨GY _ _ _,GX _ _ _⟩
   have uH:(dZ C (o.take i)).length<=8:=by rw [mF,List.length_take];omega
   generalize dZ C (o.take i)=LV at *;generalize jv C (o.take i)=CU at *
   have HZr:Hid (∀ k,k∈Z->k<wr.heap.size):=fun k hk=>Nat.lt_of_lt_of_le (HZ.out k hk) hU.size
   have HT:=Lib.hid (And.intro hT (And.intro hc hU));have UK:=Lib.hid (Ee w.heap.size Z (.slice ca CU.length cc) CU x wr hc HZr.out (by omega) (fun t ht=>by rw [Ox t ht];exact JV) (by omega));have uO:=Lib.hid Ox;clear hT hc hU hx Ox;go_wp2_with fail;refine UK.out.mono ?_;rintro e w3 hE;obtain ⟨nv,rfl,hN,eu⟩:=hE.ex;obtain ⟨na,nc,VE,_⟩:=hN.form;generalize hNL:(cZ CU x).length=NL at VE;subst VE;clear hNL;have lS:=Lib.hid (And.intro (HT.out.1.keep0 eu) (And.intro (HT.out.2.1.keep0 eu) (And.intro (hN.base HT.out.2.2.size) (HT.out.2.2.trans eu))))
   have HZ3:Hid (∀ k,k∈Z->k<w3.heap.size):=fun k hk=>Nat.lt_of_lt_of_le (HZr.out k hk) eu.size
   obtain ⟨xs,aB⟩:=lS.out.1.row;have bQ:=Lib.hid aB
   have lH:Hid (∀ z,z∈[Value.slice na NL nc]->z.oneCell'=true):=by
    intro z hz
    simp at hz
    subst hz;rfl
   have zx:=lS.out.2.2.2.size
   have uj:w.heap.size<=(w3.alloc (.cells #[.slice na NL nc] 22 (0,0))).heap.size:=by rw [World.size_alloc];omega
   clear hN eu hE UK HT aB x0
   go_wp2_with (at_builtin;go_must (refine wpList_append_lies _ rfl (.tmp 17) (.tmp 21) 201 rfl w.heap.size 22 ti _ 1 24 Tryz.underlying201 HI.out.1 HI.out.2.1 HI.out.2.2.1 HI.out.2.2.2 (by rfl) (by decide) _ LV.length xs rfl (bQ.out.alloc _) ⟨w3.heap.size,0,none⟩ 1 1 [.slice na NL nc] rfl rfl ?c1 lH.out (by omega) (by unfold maxLen;omega) (by omega) uj _ rfl ?_))
   case c1=>exact World.news_of_block (heap_alloc_new w3 (.cells #[.slice na NL nc] 22 (0,0)))
   intro g5 cap w5 aJ bU bI jd
   have HE:Hid (qC w5 w.heap.size Z (.slice (some ⟨g5,0,none⟩) (LV.length+1) cap) (LV++[cZ CU x])/\eF w5 w.heap.size Z (.slice ca CU.length cc) CU/\af [] w w5):=by
    have hp:=lS.out.1.push lS.out.2.2.1 HZ.out bU bQ.out aJ;refine ⟨hp.1,lS.out.2.1.other hp.2 (fun k hk=>bC bQ.out hk) (fun k hk ⟨z,hz⟩=>⟨z,hz,by have h1:=HZ.out z hz;have h2:=(bQ.out.lt k hk).1;omega⟩),lS.out.2.2.2.then hp.2 fun k hk=>.inr ?_⟩
    have dD:(Value.slice aa LV.length ac).ownBlock=some k:=by simpa using hk
    exact (bQ.out.lt k dD).1
   have Oy:=Lib.hid (Ef w.heap.size Z (.slice ca CU.length cc) CU x w5 HE.out.2.1 (fun k hk=>Nat.lt_of_lt_of_le (HZ.out k hk) HE.out.2.2.size) (by omega) (fun t ht=>by rw [uO.out t ht];exact JV) (by omega));clear aJ bU bI jd lS bQ;go_wp2_with fail;refine Oy.out.mono ?_;rintro e w6 hE;obtain ⟨gv,rfl,hG,nP⟩:=hE.ex;have HF:=Lib.hid (And.intro (HE.out.1.keep0 nP) (And.intro (hG.base HE.out.2.2.size) (HE.out.2.2.trans nP)));clear hG nP hE Oy HE;go_wp2_with fail
   go_roundg (o.length-(i+1))
   case measure=>omega
   case rel=>exact ⟨i+1,rfl,by omega,by simp,by rw [HS.out.1];exact HF.out.1,by rw [HS.out.2];exact HF.out.2.1,HF.out.2.2⟩
  ·obtain rfl:i=o.length:=by omega
   have fE:¬ ((o.length:Int)<(o.length:Int)):=by omega
   have HE:Hid (qC wr w.heap.size Z _ (dZ C o)/\af [] w wr):=⟨by rw [List.take_length] at hT;exact hT,hU⟩;clear hT hU hc;go_wp2_with fail;go_ret;exact ⟨_,rfl,HE.out⟩
end Go.Proofs.YtdackeldhdchaaaGreat
