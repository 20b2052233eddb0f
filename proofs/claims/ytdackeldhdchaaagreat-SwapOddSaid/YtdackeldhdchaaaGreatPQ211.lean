import Derived.Test.YtdackeldhdchaaaGreatPQ210
set_option maxRecDepth 100000
set_option maxHeartbeats 3200000
namespace Go.Proofs.YtdackeldhdchaaaGreat
open Go.RowKit Go.Maps Go.ChangeMaps Go.WideShapes
structure aO0 (u:TV) (x:Nat) (b:Bool) (n:Nat) (w:World) (e:Ending) (w':World):Prop where
 ex:∃ (a:Option Addr) (m c:Nat),e=.returned (.agg #[.int .i64 n,.slice a m c])/\aqI w w' (.slice a m c) (aee u x b)/\Upd [] w w'
theorem aO0.of {u:TV} {x n:Nat} {b:Bool} {w w':World} {e:Ending} (h:aC7 (aee u x b) w e w') (hn:u.n=n):aO0 u x b n w e w':=by
 obtain ⟨c,rfl,hT,hu⟩:=h.ex;obtain ⟨a,m,hc,_⟩:=ahV hT.row;subst hc;exact ⟨a,_,m,by unfold aeH;rw [show (aee u x b).n=n from hn],hT,hu⟩
def aqJ (w:World) (b:Nat):Prop:=w.cell? ⟨b,0,none⟩=some (.int .i64 0)/\w.cell? ⟨b,1,none⟩=some (.slice none 0 0)/\w.frozen? ⟨b,0,none⟩=false/\w.frozen? ⟨b,1,none⟩=false/\b<w.heap.size
theorem aqJ.lt {w:World} {b:Nat} (h:aqJ w b):b<w.heap.size:=h.2.2.2.2
theorem ajh {V w':World} {b:Nat} (u:Upd [] (V.alloc (.cells #[.int .i64 0,.slice none 0 0] 121 (0,0))) w') (hb:V.heap.size=b):aqJ w' b:=by
 subst hb;have e:=(u.block _ (aa4 (heap_alloc_new V _)) (by simp)).trans (heap_alloc_new V (.cells #[.int .i64 0,.slice none 0 0] 121 (0,0)));exact ⟨aac e rfl,aac e rfl,abq 0 e,abq 1 e,aa4 e⟩
theorem aA1 {w w':World} {b:Nat} (u:Upd [] w w') (h:aqJ w b):aqJ w' b:=by
 have hb:b<w.heap.size:=World.block_lt_of_cell? _ _ h.1;exact ⟨(u.cell (a:=⟨b,0,none⟩) hb (by simp)).trans h.1,(u.cell (a:=⟨b,1,none⟩) hb (by simp)).trans h.2.1,(u.frozen (a:=⟨b,0,none⟩) hb (by simp)).trans h.2.2.1,(u.frozen (a:=⟨b,1,none⟩) hb (by simp)).trans h.2.2.2.1,Nat.lt_of_lt_of_le hb u.size⟩
theorem aDb (L:List TV) (t:TV) (x:Nat):adG (L++[t]) x=addT (addT (adG L x) (aee t x false)) (aee t x true):=by unfold adG;rw [List.foldl_append];rfl
theorem atA (L:List TV) (x:Nat):(adG L x).length<=2*L.length:=by
 have key:∀ (L l:List TV),(L.foldl (fun l t=>addT (addT l (aee t x false)) (aee t x true)) l).length<=l.length+2*L.length:=by
  intro L
  induction L with
  | nil=>intro l;simp
  | cons a L ih =>
   intro l
   have:=ih (addT (addT l (aee a x false)) (aee a x true));have h1:=atX (addT l (aee a x false)) (aee a x true);have h2:=atX l (aee a x false)
   simp only [List.foldl_cons,List.length_cons];omega
 have:=key L [];unfold adG
 simpa using this
structure aI7 (u:TV) (x n:Nat) (w:World) (s8 s9:Value) (wc:World):Prop where
 ex:∃ (A B:Nat) (fa:Option Addr) (fm fc:Nat) (ta:Option Addr) (tm tc:Nat),s8=.pointer (some ⟨A,0,none⟩)/\s9=.pointer (some ⟨B,0,none⟩)/\w.heap.size<=A/\w.heap.size<=B /\
  wc.cell? ⟨A,0,none⟩=some (.int .i64 n)/\wc.cell? ⟨A,1,none⟩=some (.slice fa fm fc)/\wc.cell? ⟨B,0,none⟩=some (.int .i64 n)/\wc.cell? ⟨B,1,none⟩=some (.slice ta tm tc) /\
  aqI w wc (.slice fa fm fc) (aee u x false)/\aqI w wc (.slice ta tm tc) (aee u x true)/\Upd [] w wc
structure aB5 (Z:List Nat) (L:List TV) (t:TV) (n:Nat) (w wr:World) (B:Nat) (ta:Option Addr) (tm tc:Nat) (s5:Value) (wx:World):Prop where
 ls:TLs wx w.heap.size Z s5 L
 tn:aqI wr wx (.slice ta tm tc) t
 b0:wx.cell? ⟨B,0,none⟩=some (.int .i64 n)
 b1:wx.cell? ⟨B,1,none⟩=some (.slice ta tm tc)
 up:Upd [] w wx
theorem aI8 (w:World):w.drew.heap.size=w.heap.size:=rfl
def aG8 (n:Nat) (w wc:World) (A B:Nat) (fa:Option Addr) (fm fc:Nat) (ta:Option Addr) (tm tc:Nat):Prop :=
 Upd [A,B] w wc/\wc.cell? ⟨A,0,none⟩=some (.int .i64 n)/\wc.cell? ⟨A,1,none⟩=some (.slice fa fm fc)/\wc.cell? ⟨B,0,none⟩=some (.int .i64 n)/\wc.cell? ⟨B,1,none⟩=some (.slice ta tm tc)
theorem amh {w:World} {A:Nat} (h:aqJ w A) (x y:Value):((w.setCell ⟨A,0,none⟩ x).setCell ⟨A,1,none⟩ y).cell? ⟨A,0,none⟩=some x/\((w.setCell ⟨A,0,none⟩ x).setCell ⟨A,1,none⟩ y).cell? ⟨A,1,none⟩=some y:=by
 refine ⟨?_,?_⟩
 ·rw [World.cell?_setCell_other _ _ _ _ (by simp)]
  exact World.cell?_setCell_same _ _ _ h.1
 ·exact World.cell?_setCell_same _ _ _ ((World.cell?_setCell_other _ _ _ _ (by simp)).trans h.2.1)
theorem aj2 {w:World} {A B:Nat} (h:A≠B) (x y:Value) (i:Nat):((w.setCell ⟨A,0,none⟩ x).setCell ⟨A,1,none⟩ y).cell? ⟨B,i,none⟩=w.cell? ⟨B,i,none⟩:=by
 rw [World.cell?_setCell_other _ _ _ _ (by simp),World.cell?_setCell_other _ _ _ _ (by simp)]
theorem aO1 {n:Nat} {w:World} {A B:Nat} {fa:Option Addr} {fm fc:Nat} {ta:Option Addr} {tm tc:Nat} (hA:aqJ w A) (hB:aqJ w B) (hne:A≠B) :
  aG8 n w ((((w.setCell ⟨A,0,none⟩ (.int .i64 n)).setCell ⟨A,1,none⟩ (.slice fa fm fc)).setCell ⟨B,0,none⟩ (.int .i64 n)).setCell ⟨B,1,none⟩ (.slice ta tm tc)) A B fa fm fc ta tm tc:=by
 refine ⟨(((((Upd.refl _ w).setCell (by simp) _).setCell (by simp) _).setCell (by simp) _).setCell (by simp) _),?_,?_,?_,?_⟩
 ·rw [aj2 (Ne.symm hne)];exact (amh hA _ _).1
 ·rw [aj2 (Ne.symm hne)];exact (amh hA _ _).2
 ·exact (amh ⟨(aj2 hne _ _ 0).trans hB.1,(aj2 hne _ _ 1).trans hB.2.1,by rw [World.frozen?_setCell,World.frozen?_setCell];exact hB.2.2.1,by rw [World.frozen?_setCell,World.frozen?_setCell];exact hB.2.2.2.1,by simpa using hB.2.2.2.2⟩ _ _).1
 ·exact (amh ⟨(aj2 hne _ _ 0).trans hB.1,(aj2 hne _ _ 1).trans hB.2.1,by rw [World.frozen?_setCell,World.frozen?_setCell];exact hB.2.2.1,by rw [World.frozen?_setCell,World.frozen?_setCell];exact hB.2.2.2.1,by simpa using hB.2.2.2.2⟩ _ _).2
theorem aI9 {n:Nat} {w:World} {A:Nat} {fa:Option Addr} {fm fc:Nat} {ta:Option Addr} {tm tc:Nat} (hA:aqJ w A) :
  aG8 n w (((w.setCell ⟨A,0,none⟩ (.int .i64 n)).setCell ⟨A,1,none⟩ (.slice fa fm fc)).alloc (.cells #[.int .i64 n,.slice ta tm tc] 121 (0,0))) A w.heap.size fa fm fc ta tm tc:=by
 have hl:=hA.2.2.2.2;have hz:=alC ((w.setCell ⟨A,0,none⟩ (.int .i64 n)).setCell ⟨A,1,none⟩ (.slice fa fm fc)) (.int .i64 n) (.slice ta tm tc);rw [World.size_setCell,World.size_setCell] at hz;refine ⟨(((Upd.refl _ w).setCell (by simp) _).setCell (by simp) _).alloc _,?_,?_,hz.1,hz.2⟩
 ·rw [World.cell?_alloc_lt _ _ _ (by simpa using hl)];exact (amh hA _ _).1
 ·rw [World.cell?_alloc_lt _ _ _ (by simpa using hl)];exact (amh hA _ _).2
theorem aO2 {n:Nat} {w:World} {B:Nat} {fa:Option Addr} {fm fc:Nat} {ta:Option Addr} {tm tc:Nat} (hB:aqJ w B) :
  aG8 n w (((w.setCell ⟨B,0,none⟩ (.int .i64 n)).setCell ⟨B,1,none⟩ (.slice ta tm tc)).alloc (.cells #[.int .i64 n,.slice fa fm fc] 121 (0,0))) w.heap.size B fa fm fc ta tm tc:=by
 obtain ⟨h1,h2,h3,h4,h5⟩:=aI9 (n:=n) (fa:=ta) (fm:=tm) (fc:=tc) (ta:=fa) (tm:=fm) (tc:=fc) hB;exact ⟨h1.mono fun x hx=>by simp only [List.mem_cons,List.not_mem_nil,or_false] at hx ⊢;exact hx.symm,h4,h5,h2,h3⟩
theorem aJa {n:Nat} {w:World} {fa:Option Addr} {fm fc:Nat} {ta:Option Addr} {tm tc:Nat} :
  aG8 n w ((w.alloc (.cells #[.int .i64 n,.slice fa fm fc] 121 (0,0))).alloc (.cells #[.int .i64 n,.slice ta tm tc] 121 (0,0))) w.heap.size (w.heap.size+1) fa fm fc ta tm tc:=by
 have hz:=alC (w.alloc (.cells #[.int .i64 n,.slice fa fm fc] 121 (0,0))) (.int .i64 n) (.slice ta tm tc);have hy:=alC w (.int .i64 n) (.slice fa fm fc);rw [World.size_alloc] at hz;refine ⟨((Upd.refl _ w).alloc _).alloc _,?_,?_,hz.1,hz.2⟩
 ·rw [World.cell?_alloc_lt _ _ _ (by simp)];exact hy.1
 ·rw [World.cell?_alloc_lt _ _ _ (by simp)];exact hy.2
theorem aMj {n:Nat} {w:World} {fa:Option Addr} {fm fc:Nat} {ta:Option Addr} {tm tc:Nat} :
  aG8 n w ((w.alloc (.cells #[.int .i64 n,.slice ta tm tc] 121 (0,0))).alloc (.cells #[.int .i64 n,.slice fa fm fc] 121 (0,0))) (w.heap.size+1) w.heap.size fa fm fc ta tm tc:=by
 obtain ⟨h1,h2,h3,h4,h5⟩:=aJa (n:=n) (w:=w) (fa:=ta) (fm:=tm) (fc:=tc) (ta:=fa) (tm:=fm) (tc:=fc);exact ⟨h1.mono fun x hx=>by simp only [List.mem_cons,List.not_mem_nil,or_false] at hx ⊢;exact hx.symm,h4,h5,h2,h3⟩
theorem aJb {u:TV} {x n:Nat} {w V1 w3 V2 w4 wc:World} {A B:Nat} {fa:Option Addr} {fm fc:Nat} {ta:Option Addr} {tm tc:Nat}
  (h1:aqI V1 w3 (.slice fa fm fc) (aee u x false)) (h2:aqI V2 w4 (.slice ta tm tc) (aee u x true)) (u2:Upd [] w3 w4) (u4:Upd [] w w4)
  (hq:aG8 n w4 wc A B fa fm fc ta tm tc)
  (hs:w.heap.size<=V1.heap.size/\w.heap.size<=V2.heap.size/\(A<V1.heap.size\/w3.heap.size<=A)/\(B<V1.heap.size\/w3.heap.size<=B)/\(A<V2.heap.size\/w4.heap.size<=A)/\(B<V2.heap.size\/w4.heap.size<=B)/\w.heap.size<=A/\w.heap.size<=B) :
  aI7 u x n w (.pointer (some ⟨A,0,none⟩)) (.pointer (some ⟨B,0,none⟩)) wc:=by
 obtain ⟨hc,cA0,cA1,cB0,cB1⟩:=hq;obtain ⟨hZ,hZ2,hA1,hB1,hA2,hB2,hA,hB⟩:=hs;refine ⟨A,B,fa,fm,fc,ta,tm,tc,rfl,rfl,hA,hB,cA0,cA1,cB0,cB1,?_,?_,?_⟩
 ·refine ⟨h1.ok,aet (aaX h1.row fun k hk=>?_) hZ⟩
  ·have hl:=h1.row.lt k hk
   refine (hc.block k (Nat.lt_of_lt_of_le hl.2 u2.size) ?_).trans (u2.block k hl.2 (by simp))
   simp only [List.mem_cons,List.not_mem_nil,or_false,not_or]
   omega
 ·refine ⟨h2.ok,aet (aaX h2.row fun k hk=>?_) hZ2⟩
  ·have hl:=h2.row.lt k hk
   refine hc.block k hl.2 ?_
   simp only [List.mem_cons,List.not_mem_nil,or_false,not_or]
   omega
 ·exact u4.then hc fun k hk=>by
   simp only [List.mem_cons,List.not_mem_nil,or_false] at hk
   right;rcases hk with rfl | rfl <;> assumption
theorem aFe (n0:Nat) (Z:List Nat) (v:Value) (L:List TV) (x:Nat) (w:World) (h:TLs w n0 Z v L) (hZ:∀ k,k∈Z->k<w.heap.size) (hl:L.length<=536870912) (hx:∀ t,t∈L->x<t.n) (_hx6:x<64) :
  Calls Tryz.prog 179 #[v,.int .i64 x] w fun e w'=>TLQ Z (adG L x) w e w':=by
 obtain ⟨ti,hi2,hz2,hs2,hb2⟩:=info_parts Tryz.infoTable;have HI:=Lib.hid (And.intro hi2 (And.intro hz2 (And.intro hs2 hb2)));obtain ⟨fa,fc,rfl,hfa⟩:=h.form;have HL:=Lib.hid h;have HZ:=Lib.hid hZ;have HX:=Lib.hid hx;clear h hZ hi2 hz2 hs2 hb2 hx
 go_enter Tryz.func179,Tryz.ntmps179
 go_wp2_with fail
 go_loopg [5,12] L.length (fun g s3 s8 wr=>∃ i:Nat,L.length-i=g/\i<=L.length/\s8=.int .i64 i/\TLs wr w.heap.size Z s3 (adG (L.take i) x)/\Upd [] w wr)
 case atStart=>exact ⟨0,by omega,by omega,rfl,by simpa [adG] using TLs.nil w w.heap.size Z,Upd.refl _ _⟩
 case round =>
  obtain ⟨i,rfl,hi,rfl,hT,hU⟩:=hrel
  by_cases hlt:i<L.length
  ·obtain ⟨u,hu⟩ : ∃ u,L[i]?=some u:=⟨_,List.getElem?_eq_getElem hlt⟩
   obtain ⟨ga,rfl⟩:=hfa (by omega);obtain ⟨cu,x0,x1,htu⟩:=(HL.out.keep0 hU).at_ hu;obtain ⟨ua,uc,hcu,_⟩:=ahV htu.row;subst hcu;obtain ⟨oa,oc,hov,_⟩:=hT.form;subst hov
   have hil:(i:Int)<(L.length:Int):=by omega
   have hul:(adG (L.take i) x).length<=1073741824:=by
    have:=atA (L.take i) x
    rw [List.length_take] at this;omega
   have HS:Hid (adG (L.take (i+1)) x=addT (addT (adG (L.take i) x) (aee u x false)) (aee u x true)):=by
    show _=_
    rw [List.take_add_one,hu];exact aDb _ _ _
   generalize adG (L.take i) x=UL at *;have HT0:=Lib.hid (And.intro hT hU);obtain ⟨z0,z1⟩:=alC wr (.int .i64 u.n) (.slice ua u.ws.length uc)
   have HZR:Hid (∀ k,k∈Z->k<wr.heap.size):=fun k hk=>Nat.lt_of_lt_of_le (HZ.out k hk) hU.size
   have hUB:=(Upd.refl [] wr).alloc (.cells #[.int .i64 u.n,.slice ua u.ws.length uc] 121 (0,0));have HTU:=Lib.hid (And.intro (hT.keep0 hUB) (And.intro (htu.keep0 hUB) (hU.trans hUB)));have HXU:=Lib.hid (HX.out u (List.mem_of_getElem? hu));generalize hUW:u.ws.length=UW at *;generalize hun:u.n=un at *;have HUN:=Lib.hid (And.intro hUW hun)
   have HC:Hid (∀ (W:World) (b:Bool),Upd [] (wr.alloc (.cells #[.int .i64 un,.slice ua UW uc] 121 (0,0))) W->Calls Tryz.prog 116 #[.agg #[.int .i64 un,.slice ua UW uc],.int .i64 x,.bool b] W fun e w'=>aO0 u x b un W e w'):=fun W b hW=>by
    have:=atV Z (.slice ua UW uc) u x b W (HTU.out.2.1.keep0 hW) (by rw [hun];exact HXU.out);unfold aeH at this;rw [hun] at this
    exact this.mono fun e w' h=>.of h hun
   clear htu hT hU hu hUB hUW hun;go_upto_region 5 with fail
   go_cut [8,9,12] from 12 to 38 (fun s8 s9 s12 wc=>s12=.int .i64 i/\aI7 u x un wr s8 s9 wc)
   case first =>
    go_region_held3 (fun w'=>w'.cell? ⟨wr.heap.size,0,none⟩=some (.int .i64 un)/\w'.cell? ⟨wr.heap.size,1,none⟩=some (.slice ua UW uc)) (exact aer (by repeat' (first | exact HU4.out | exact HU1.out | exact Upd.refl _ _ | refine Upd.setCell ?_ (Or.inr (by (try have q1:=HU1.out.size);(try have q2:=HU4.out.size);simp only [World.size_alloc] at *;omega)) _ | refine Upd.alloc ?_ _ | refine Upd.drew ?_)) ⟨z0,z1⟩) (first | (go_at_call_of 116 (Value.bool false);refine (HC.out _ false (by first | exact (Upd.refl [] _).drew | exact ((Upd.refl [] _).drew).alloc _ | exact (((Upd.refl [] _).drew).alloc _).alloc _)).mono ?_;rintro e w3 hE;obtain ⟨fA,fM,fC,rfl,hTf,huf⟩:=hE.ex;have HU1:Hid (Upd [] (wr.alloc (.cells #[.int .i64 un,.slice ua UW uc] 121 (0,0))) w3):=(by first | exact ((Upd.refl [] _).drew).trans huf | exact (((Upd.refl [] _).drew).alloc _).trans huf | exact ((((Upd.refl [] _).drew).alloc _).alloc _).trans huf);(try (have ZA:aqJ w3 (wr.heap.size+1):=by first | exact ajh (Upd.of_drew huf) (by show (wr.alloc _).heap.size=_;rw [World.size_alloc]) | exact ajh huf (by show (wr.alloc _).heap.size=_;rw [World.size_alloc]) | exact ajh (((Upd.refl [] _).alloc _).trans (Upd.of_drew huf)) (by show (wr.alloc _).heap.size=_;rw [World.size_alloc]) | exact ajh (((Upd.refl [] _).alloc _).trans huf) (by show (wr.alloc _).heap.size=_;rw [World.size_alloc])));(try (have ZB:aqJ w3 (wr.heap.size+1+1):=by first | exact ajh (Upd.of_drew huf) (by show ((wr.alloc _).alloc _).heap.size=_;rw [World.size_alloc,World.size_alloc]) | exact ajh huf (by show ((wr.alloc _).alloc _).heap.size=_;rw [World.size_alloc,World.size_alloc])));obtain ⟨v0,v1⟩:=aer HU1.out ⟨z0,z1⟩;(try (have NA:¬ (wr.heap.size+1=w3.heap.size):=Nat.ne_of_lt (aqJ.lt (by assumption));have NA':=Ne.symm NA));(try (have NB:¬ (wr.heap.size+1+1=w3.heap.size):=Nat.ne_of_lt (aqJ.lt (by assumption));have NB':=Ne.symm NB));have HTF:=Lib.hid (And.intro hTf huf);clear hE;(try clear hTf);(try clear huf)) | (go_at_call_of 116 (Value.bool true);refine (HC.out _ true (by first | exact HU1.out | exact HU1.out.alloc _ | exact (HU1.out.alloc _).alloc _)).mono ?_;rintro e w4 hE;obtain ⟨tA,tM,tC,rfl,hTt,hut⟩:=hE.ex;have HU2:Hid (Upd [] w3 w4):=(by first | exact hut | exact ((Upd.refl [] _).alloc _).trans hut | exact (((Upd.refl [] _).alloc _).alloc _).trans hut);have HU4:=Lib.hid (HU1.out.trans HU2.out);(try (have YA:aqJ w4 (wr.heap.size+1):=by exact aA1 HU2.out (by assumption)));(try (have YB:aqJ w4 (wr.heap.size+1+1):=by exact aA1 HU2.out (by assumption)));(try (have YC:aqJ w4 w3.heap.size:=by first | exact ajh hut rfl | exact ajh (((Upd.refl [] _).alloc _).trans hut) rfl));(try (have YD:aqJ w4 (w3.heap.size+1):=by exact ajh hut (by rw [World.size_alloc])));(try obtain ⟨ya0,ya1,ya2,ya3,ya4⟩:=YA);(try obtain ⟨yb0,yb1,yb2,yb3,yb4⟩:=YB);(try obtain ⟨yc0,yc1,yc2,yc3,yc4⟩:=YC);(try obtain ⟨yd0,yd1,yd2,yd3,yd4⟩:=YD);obtain ⟨u0,u1⟩:=aer HU2.out ⟨v0,v1⟩;have HTT:=Lib.hid (And.intro hTt hut);clear hE;(try clear hTt);(try clear hut)))
    all_goals go_wp2_with fail
    all_goals go_meet
    all_goals (refine ⟨rfl,aJb HTF.out.1 HTT.out.1 HU2.out (((Upd.refl [] wr).alloc _).trans HU4.out) ?_ ?_⟩)
    all_goals (first | exact aJa | exact aMj | exact aI9 ⟨by assumption,by assumption,by assumption,by assumption,by assumption⟩ | exact aO2 ⟨by assumption,by assumption,by assumption,by assumption,by assumption⟩ | exact aO1 ⟨by assumption,by assumption,by assumption,by assumption,by assumption⟩ ⟨by assumption,by assumption,by assumption,by assumption,by assumption⟩ (by first | assumption | simp) | skip)
    all_goals (have q1:=HTF.out.2.size;have q2:=HTT.out.2.size;have q3:=HU1.out.size;simp only [World.size_alloc,aI8] at q1 q2 q3 ⊢)
    all_goals (refine ⟨by omega,by omega,by omega,by omega,by omega,by omega,by omega,by omega⟩)
   case rest =>
    obtain ⟨rfl,hG⟩:=hcut;obtain ⟨A,B,fA,fM,fC,tA,tM,tC,rfl,rfl,hA,hB,a0,a1,b0,b1,hta,htb,hu⟩:=hG.ex;have HAB:=Lib.hid (And.intro hA hB);have hTc:=HT0.out.1.keep0 hu;have HCA:=Lib.hid (And.intro hta (hta.tin HZR.out));have HCB:=Lib.hid (And.intro htb (htb.tin HZR.out));have HIN:=Lib.hid (aB0 w.heap.size Z (.slice oa UL.length oc) UL (.slice fA fM fC) (aee u x false) wc hTc HCA.out.2 (by omega));have HNA:Hid ((aee u x false).n=un/\(aee u x true).n=un):=⟨HUN.out.2,HUN.out.2⟩;have HNB:=Lib.hid HNA.out.2;have HU:=Lib.hid (And.intro hu (HT0.out.2.trans hu));have HTC:=Lib.hid hTc;unfold aeH at HIN;rw [HNA.out.1] at HIN;generalize aee u x false=ta at *;generalize aee u x true=tb at *;clear hA hB hta htb hu hTc hG HC z0 z1
    go_upto_if 25 with (go_at_call 99;refine HIN.out.mono ?_;rintro e w3 ⟨rfl,hu3⟩;obtain ⟨a0,a1⟩:=aer hu3 ⟨a0,a1⟩;obtain ⟨b0,b1⟩:=aer hu3 ⟨b0,b1⟩;have HU3:=Lib.hid hu3;clear hu3)
    go_cut [5,12] from 12 to 38 (fun s5 s12 wx=>s12=.int .i64 i/\aB5 Z (addT UL ta) tb un w wr B tA tM tC s5 wx)
    case first =>
     by_cases e:ta∈UL
     ·rw [decide_eq_true e]
      have HE:Hid (aB5 Z (addT UL ta) tb un w wr B tA tM tC (.slice oa UL.length oc) w3):=by
       rw [ayp e];exact ⟨HTC.out.keep0 HU3.out,HCB.out.1.keep HU3.out,b0,b1,HU.out.2.trans HU3.out⟩
      clear e;go_wp2_with fail;go_meet;exact ⟨rfl,HE.out⟩
     ·rw [decide_eq_false e]
      obtain ⟨xs,abP⟩:=(HTC.out.keep0 HU3.out).row;obtain ⟨xs0,aNB⟩:=HT0.out.1.row;have aep:=Lib.hid (And.intro abP aNB)
      have HC2:Hid (∀ z,z∈[Value.int .i64 un,Value.slice fA fM fC]->z.oneCell'=true):=by
       intro z hz;simp at hz;rcases hz with rfl | rfl <;> rfl
      have aB4:=(HU.out.2.trans HU3.out).size
      have hbs:w.heap.size<=(w3.alloc (.cells #[.int .i64 un,.slice fA fM fC] 121 (0,0))).heap.size:=by rw [World.size_alloc];omega
      have HNE:Hid (ta∉UL):=e;have HBB:Hid (w3.cell? ⟨B,0,none⟩=some (.int .i64 un)/\w3.cell? ⟨B,1,none⟩=some (.slice tA tM tC)):=⟨b0,b1⟩;clear e HS abP aNB
      go_wp2_with (at_builtin;go_must (refine wpList_append_lies _ rfl (.tmp 26) (.tmp 28) 22 rfl w.heap.size 121 ti _ 2 32 Tryz.underlying22 HI.out.1 HI.out.2.1 HI.out.2.2.1 HI.out.2.2.2 (by rfl) (by decide) _ UL.length xs rfl (aep.out.1.alloc _) ⟨w3.heap.size,0,none⟩ 1 1 [.int .i64 un,.slice fA fM fC] rfl rfl ?c1 HC2.out (by omega) (by unfold maxLen;omega) (by omega) hbs _ rfl ?_))
      case c1=>exact World.news_of_block (heap_alloc_new w3 (.cells #[.int .i64 un,.slice fA fM fC] 121 (0,0)))
      intro g5 cap w5 ab3 hgr hat ajb
      have HE:Hid (aB5 Z (addT UL ta) tb un w wr B tA tM tC (.slice (some ⟨g5,0,none⟩) (UL.length+1) cap) w5):=by
       rw [aB1 HNE.out];have hp:=(HTC.out.keep0 HU3.out).push (HCA.out.2.keep0 HU3.out) (by omega) HZ.out hgr aep.out.1 (by rw [HNA.out.1];exact ab3)
       have hS:=hp.2 (Value.slice oa UL.length oc).ownBlock.toList fun k hk=>.inl (by rw [hk];simp)
       have aO5:∀ k,wr.heap.size<=k->k∉(Value.slice oa UL.length oc).ownBlock.toList:=fun k hk hm=>by
        have hm':(Value.slice oa UL.length oc).ownBlock=some k:=by simpa using hm
        have:=(aep.out.2.lt k hm').2;omega
       have hbl:B<w3.heap.size:=World.block_lt_of_cell? _ _ HBB.out.1;have hcb:=HCB.out.1.keep HU3.out;refine ⟨hp.1,⟨hcb.ok,aaX hcb.row fun k hk=>hS.block k (hcb.row.lt k hk).2 (aO5 k (hcb.row.lt k hk).1)⟩,(hS.cell (a:=⟨B,0,none⟩) hbl (aO5 B HAB.out.2)).trans HBB.out.1,(hS.cell (a:=⟨B,1,none⟩) hbl (aO5 B HAB.out.2)).trans HBB.out.2,?_⟩
       refine (HU.out.2.trans HU3.out).then hS fun k hk=>.inr ?_
       have hk':(Value.slice oa UL.length oc).ownBlock=some k:=by simpa using hk
       exact (aep.out.2.lt k hk').1
      clear ab3 hgr hat ajb;go_wp2_with fail;go_meet;exact ⟨rfl,HE.out⟩
    case rest =>
     obtain ⟨rfl,hG⟩:=hcut;obtain ⟨hT4,htb,b0,b1,hu4⟩:=hG
     have hVL:(addT UL ta).length<=1073741824+1:=by have:=atX UL ta;omega
     clear HTC HCA HCB HIN HU3 HU HT0 a0 a1 HTU HNA;generalize addT UL ta=VL at *;obtain ⟨va,vc,rfl,_⟩:=hT4.form;have HIN:=Lib.hid (aB0 w.heap.size Z (.slice va VL.length vc) VL (.slice tA tM tC) tb wc hT4 (htb.tin HZR.out) (by omega));have HTC:=Lib.hid (And.intro hT4 (And.intro (htb.tin HZR.out) hu4));unfold aeH at HIN;rw [HNB.out] at HIN;clear hT4 htb hu4;go_wp2_with fail;refine HIN.out.mono ?_;rintro e w3 ⟨rfl,hu3⟩;obtain ⟨b0,b1⟩:=aer hu3 ⟨b0,b1⟩;have HT3:=Lib.hid (And.intro (HTC.out.1.keep0 hu3) (And.intro (HTC.out.2.1.keep0 hu3) (HTC.out.2.2.trans hu3)));clear hu3 HIN HTC
     by_cases e:tb∈VL
     ·rw [decide_eq_true e]
      have HN:Hid (adG (L.take (i+1)) x=VL):=by rw [HS.out,ayp e];exact rfl
      clear e HS;go_wp2_with fail
      go_roundg (L.length-(i+1))
      case measure=>omega
      case rel=>exact ⟨i+1,rfl,by omega,by simp,by rw [HN.out];exact HT3.out.1,HT3.out.2.2⟩
     ·rw [decide_eq_false e]
      have HN:Hid (adG (L.take (i+1)) x=VL++[tb]):=by rw [HS.out,aB1 e];exact rfl
      obtain ⟨xs,abP⟩:=HT3.out.1.row;have aep:=Lib.hid abP
      have HC2:Hid (∀ z,z∈[Value.int .i64 un,Value.slice tA tM tC]->z.oneCell'=true):=by
       intro z hz;simp at hz;rcases hz with rfl | rfl <;> rfl
      have aB4:=HT3.out.2.2.size
      have hbs:w.heap.size<=(w3.alloc (.cells #[.int .i64 un,.slice tA tM tC] 121 (0,0))).heap.size:=by rw [World.size_alloc];omega
      clear e HS abP
      go_wp2_with (at_builtin;go_must (refine wpList_append_lies _ rfl (.tmp 34) (.tmp 36) 22 rfl w.heap.size 121 ti _ 2 32 Tryz.underlying22 HI.out.1 HI.out.2.1 HI.out.2.2.1 HI.out.2.2.2 (by rfl) (by decide) _ VL.length xs rfl (aep.out.alloc _) ⟨w3.heap.size,0,none⟩ 1 1 [.int .i64 un,.slice tA tM tC] rfl rfl ?c1 HC2.out (by omega) (by unfold maxLen;omega) (by omega) hbs _ rfl ?_))
      case c1=>exact World.news_of_block (heap_alloc_new w3 (.cells #[.int .i64 un,.slice tA tM tC] 121 (0,0)))
      intro g5 cap w5 ab3 hgr hat ajb
      have HE:Hid (TLs w5 w.heap.size Z (.slice (some ⟨g5,0,none⟩) (VL.length+1) cap) (VL++[tb])/\Upd [] w w5):=by
       have hp:=HT3.out.1.push HT3.out.2.1 (by omega) HZ.out hgr aep.out (by rw [HNB.out];exact ab3);refine ⟨hp.1,HT3.out.2.2.then (hp.2 (Value.slice va VL.length vc).ownBlock.toList fun k hk=>.inl (by rw [hk];simp)) fun k hk=>.inr ?_⟩
       have hk':(Value.slice va VL.length vc).ownBlock=some k:=by simpa using hk
       exact (aep.out.lt k hk').1
      clear ab3 hgr hat ajb;go_wp2_with fail
      go_roundg (L.length-(i+1))
      case measure=>omega
      case rel=>exact ⟨i+1,rfl,by omega,by simp,by rw [HN.out];exact HE.out.1,HE.out.2⟩
  ·obtain rfl:i=L.length:=by omega
   have hil:¬ ((L.length:Int)<(L.length:Int)):=by omega
   have HE:Hid (TLs wr w.heap.size Z _ (adG L x)/\Upd [] w wr):=⟨by rw [List.take_length] at hT;exact hT,hU⟩;clear hT hU;go_wp2_with fail;go_ret;exact ⟨_,rfl,HE.out⟩
theorem Tryz.infoTabs:(Tryz.prog.info? 22).map (fun i=>(i.zero,i.size,i.bytes))=some (some (.slice none 0 0),1,24):=by kernel_rfl
def ams (c:List TV) (o:List Nat):List TV:=o.foldl adG c
def ag5:List TV->List Nat->List (List TV)
 | _,[]=>[]
 | c,v::o=>ae8 c v::ag5 (adG c v) o
theorem aG9 (c:List TV) (o:List Nat) (v:Nat):ams c (o++[v])=adG (ams c o) v:=by unfold ams;rw [List.foldl_append];rfl
theorem aHa (c:List TV) (o:List Nat) (v:Nat):ag5 c (o++[v])=ag5 c o++[ae8 (ams c o) v]:=by
 induction o generalizing c with
 | nil=>rfl
 | cons a o ih=>simp only [List.cons_append,ag5,ih];rfl
theorem aqV (c:List TV) (o:List Nat):(ag5 c o).length=o.length:=by
 induction o generalizing c with
 | nil=>rfl
 | cons a o ih=>simp [ag5,ih]
theorem aJc (c:List TV) (o:List Nat):(ams c o).length<=2 ^ o.length*c.length:=by
 induction o generalizing c with
 | nil=>simp [ams]
 | cons a o ih =>
  have h1:=ih (adG c a);have h2:=atA c a;have h3:ams c (a::o)=ams (adG c a) o:=rfl;rw [h3,List.length_cons,Nat.pow_succ]
  calc _<=2 ^ o.length*(adG c a).length:=h1
   _<=2 ^ o.length*(2*c.length):=Nat.mul_le_mul_left _ h2
   _=_:=by rw [Nat.mul_assoc]
theorem ayq {l:List TV} {t u:TV}:u∈addT l t↔u∈l\/u=t:=by
 unfold addT;split
 ·constructor
  ·exact .inl
  ·rintro (h | rfl);exact h;assumption
 ·simp
theorem afO {L:List TV} {u:TV}:u∈acw L↔u∈L:=by
 have key:∀ (L l:List TV),u∈L.foldl addT l↔u∈l\/u∈L:=by
  intro L
  induction L with
  | nil=>intro l;simp
  | cons a L ih=>intro l;rw [List.foldl_cons,ih,ayq,List.mem_cons,or_assoc]
 simpa [acw] using key L []
theorem aj7 {L:List TV} {v:Nat} {u:TV}:u∈adG L v↔∃ t,t∈L/\∃ b,u=aee t v b:=by
 have key:∀ (L l:List TV),u∈L.foldl (fun l t=>addT (addT l (aee t v false)) (aee t v true)) l↔u∈l\/∃ t,t∈L/\∃ b,u=aee t v b:=by
  intro L
  induction L with
  | nil=>intro l;simp
  | cons a L ih =>
   intro l
   rw [List.foldl_cons,ih,ayq,ayq];constructor
   ·rintro (((h | h) | h) | ⟨t,h,b,e⟩)
    ·exact .inl h
    ·exact .inr ⟨a,by simp,_,h⟩
    ·exact .inr ⟨a,by simp,_,h⟩
    ·exact .inr ⟨t,by simp [h],b,e⟩
   ·rintro (h | ⟨t,h,b,e⟩)
    ·exact .inl (.inl (.inl h))
    ·rcases List.mem_cons.1 h with rfl | h
     ·cases b
      ·exact .inl (.inl (.inr e))
      ·exact .inl (.inr e)
     ·exact .inr ⟨t,h,b,e⟩
 simpa [adG] using key L []
theorem aO6 {c:List TV} {n:Nat} (h:∀ t,t∈c->t.n=n) (o:List Nat):∀ t,t∈ams c o->t.n=n:=by
 induction o generalizing c with
 | nil=>exact h
 | cons a o ih =>
  refine ih fun t ht=>?_
  obtain ⟨u,hu,b,rfl⟩:=aj7.1 ht;exact h u hu
structure TLL (w:World) (n0:Nat) (Z:List Nat) (v:Value) (L:List (List TV)):Prop where
 ex:∃ cs:List Value,cs.length=L.length/\w.ownsRow n0 22 1 v L.length cs/\∀ (i:Nat) (l:List TV) (c:Value),L[i]?=some l->cs[i]?=some c->TLs w n0 Z c l
 fr:∀ k,v.ownBlock=some k->k∉Z
theorem TLL.row {w:World} {n0:Nat} {Z:List Nat} {v:Value} {L:List (List TV)} (h:TLL w n0 Z v L):∃ xs,w.ownsRow n0 22 1 v L.length xs:=by
 obtain ⟨cs,_,hr,_⟩:=h.ex;exact ⟨_,hr⟩
theorem TLL.keep {w w':World} {n0:Nat} {Z S:List Nat} {v:Value} {L:List (List TV)} (h:TLL w n0 Z v L) (u:Upd S w w') (hS:∀ k,k∈S->k∈Z\/w.heap.size<=k):TLL w' n0 Z v L:=by
 obtain ⟨cs,h1,h2,h3⟩:=h.ex;refine ⟨⟨cs,h1,aaX h2 fun k hk=>u.block k (h2.lt k hk).2 fun hm=>?_,fun i t c ht hc=>(h3 i t c ht hc).keep u hS⟩,h.fr⟩
 rcases hS k hm with h4 | h4
 ·exact h.fr k hk h4
 ·have:=(h2.lt k hk).2;omega
theorem TLL.keep0 {w w':World} {n0:Nat} {Z:List Nat} {v:Value} {L:List (List TV)} (h:TLL w n0 Z v L) (u:Upd [] w w'):TLL w' n0 Z v L:=h.keep u (by simp)
theorem TLL.base {w:World} {n0 n1:Nat} {Z:List Nat} {v:Value} {L:List (List TV)} (h:TLL w n0 Z v L) (hn:n1<=n0):TLL w n1 Z v L:=by
 obtain ⟨cs,h1,h2,h3⟩:=h.ex;exact ⟨⟨cs,h1,aet h2 hn,fun i t c ht hc=>(h3 i t c ht hc).base hn⟩,h.fr⟩
theorem TLL.nil (w:World) (n0:Nat) (Z:List Nat):TLL w n0 Z (.slice none 0 0) []:=⟨⟨[],rfl,World.ownsRow_nil _ _ _ _,fun i t c h=>by simp at h⟩,fun k hk=>by simp [Value.ownBlock] at hk⟩
theorem TLL.form {w:World} {n0:Nat} {Z:List Nat} {v:Value} {L:List (List TV)} (h:TLL w n0 Z v L):∃ (a:Option Addr) (c:Nat),v=.slice a L.length c/\(0<L.length->∃ g,a=some ⟨g,0,none⟩):=by
 obtain ⟨xs,hr⟩:=h.row;obtain ⟨a,c,hv,hh⟩:=abI hr;refine ⟨a,c,hv,fun hp=>?_⟩
 rcases hh with ⟨_,h0,_⟩ | hh
 ·omega
 ·exact hh
theorem TLL.at_ {w:World} {n0 n' cp g:Nat} {Z:List Nat} {L:List (List TV)} (h:TLL w n0 Z (.slice (some ⟨g,0,none⟩) n' cp) L) {i:Nat} {l:List TV} (ht:L[i]?=some l) :
  ∃ c,w.cell? ⟨g,i,none⟩=some c/\TLs w n0 Z c l:=by
 obtain ⟨cs,h1,h2,h3⟩:=h.ex
 have hil:i<L.length:=by
  by_cases e:i<L.length
  ·exact e
  ·rw [List.getElem?_eq_none (by omega)] at ht;cases ht
 have hc:cs[i]?=some (cs[i]'(by omega)):=List.getElem?_eq_getElem (by omega);exact ⟨_,abf h2 hc,h3 i l _ ht hc⟩
theorem acE {w:World} {base:Nat} {e:TypeId} {sz n:Nat} {v:Value} {xs:List Value} (h:w.ownsRow base e sz v n xs) {k:Nat} (hk:v.ownBlock=some k) :
  ∃ cs fr,w.heap[k]?=some (.cells cs e fr):=by
 obtain ⟨_,(⟨e1,_⟩ | ⟨g,anz,aMi,e1,hg,hh,_⟩)⟩:=h
 ·rw [e1] at hk;simp [Value.ownBlock] at hk
 ·rw [e1] at hk
  simp [Value.ownBlock] at hk
  subst hk;exact ⟨_,_,hh⟩
theorem TLs.other {w w':World} {n0:Nat} {Z:List Nat} {v:Value} {L:List TV} (h:TLs w n0 Z v L) {k0:Option Nat} (u:Upd k0.toList w w') (h0:∀ k,k0=some k->∃ cs fr,w.heap[k]?=some (.cells cs 22 fr)) (hz:∀ k,k0=some k->(∃ z,z∈Z)->∃ z,z∈Z/\z<=k):TLs w' n0 Z v L:=by
 obtain ⟨cs,h1,h2,h3⟩:=h.ex
 have far:∀ {e:TypeId} {k:Nat},e≠22->(∃ cs fr,w.heap[k]?=some (.cells cs e fr))->k∉k0.toList:=fun {e k} hne hh hm=>by
  have hk:k0=some k:=by simpa using hm
  obtain ⟨c1,f1,e1⟩:=hh;obtain ⟨c2,f2,e2⟩:=h0 k hk;rw [e1] at e2
  injection e2 with e2
  injection e2 with _ e2 _
  exact hne e2
 refine ⟨⟨cs,h1,aaX h2 fun k hk=>u.block k (h2.lt k hk).2 (far (by decide) (acE h2 hk)),fun i t c ht hc=>?_⟩,h.fr⟩;have ht':=h3 i t c ht hc
 exact ⟨ht'.ok,ht'.row.kp fun k hk=>u.block k (ht'.row.lt k hk).2 fun hm=>by
  have hk0:k0=some k:=by simpa using hm
  obtain ⟨c2,f2,e2⟩:=h0 k hk0
  exact ht'.nb e2 (by decide) (hz k hk0) hk,ht'.fr⟩
theorem TLL.push {w w5:World} {n0 g5 cap:Nat} {Z:List Nat} {v c:Value} {L:List (List TV)} {l:List TV} {X:Obj} (h:TLL w n0 Z v L) (ht:TLs w n0 Z c l) (hZ:∀ k,k∈Z->k<n0)
  (hgr:(w.alloc X).grownBy w5 v.ownBlock) {xs:List Value} (abP:w.ownsRow n0 22 1 v L.length xs) (ab3:w5.ownsRow n0 22 1 (.slice (some ⟨g5,0,none⟩) (L.length+1) cap) (L.length+1) (xs++[c])) :
  TLL w5 n0 Z (.slice (some ⟨g5,0,none⟩) (L.length+1) cap) (L++[l])/\Upd v.ownBlock.toList w w5:=by
 obtain ⟨cs,h1,h2,h3⟩:=h.ex
 obtain rfl:xs=cs:=by
  obtain ⟨e1,c1⟩:=abP;obtain ⟨e2,c2⟩:=h2
  rcases c1 with ⟨rfl,h0⟩ | ⟨g,anz,aMi,rfl,hg,hh,_,_,_,k1⟩
  ·rcases c2 with ⟨_,_⟩ | ⟨g,aiP,cur2,e,_⟩
   ·have a1:xs.length=0:=by rw [e1,h0]
    have a2:cs.length=0:=by rw [e2,h0]
    rw [List.length_eq_zero_iff.1 a1,List.length_eq_zero_iff.1 a2]
   ·simp at e
  ·rcases c2 with ⟨e,_⟩ | ⟨g',aiP,cur2,e,hg',hh',_,_,_,k2⟩
   ·simp at e
   ·simp at e
    obtain ⟨rfl,_⟩:=e
    rw [hh] at hh';cases hh'
    rw [<- k1,<- k2]
 have hu:Upd v.ownBlock.toList w w5:=((Upd.refl _ w).alloc X).grown hgr fun k hk=>.inl (by rw [hk];simp)
 have keep:∀ {m:List TV} {d:Value},TLs w n0 Z d m->TLs w5 n0 Z d m:=fun {m d} hd=>hd.other hu (fun k hk=>acE abP hk) fun k hk ⟨z,hz⟩=>⟨z,hz,by have h1:=hZ z hz;have h2:=(abP.lt k hk).1;omega⟩
 refine ⟨⟨⟨xs++[c],by simp [h1],by rw [List.length_append,List.length_singleton];exact ab3,fun i u d hu' hd=>?_⟩,fun k hk hm=>?_⟩,hu⟩
 ·by_cases hi:i<L.length
  ·rw [List.getElem?_append_left hi] at hu'
   rw [List.getElem?_append_left (by omega)] at hd;exact keep (h3 i u d hu' hd)
  ·rw [List.getElem?_append_right (by omega)] at hu'
   rw [List.getElem?_append_right (by omega),h1] at hd
   cases e:i-L.length with
   | zero=>rw [e] at hu' hd;simp at hu' hd;subst hu' hd;exact keep ht
   | succ j=>rw [e] at hu';simp at hu'
 ·have h4:=(ab3.lt k hk).1
  have h5:=hZ k hm;omega
structure aRt (Z:List Nat) (L:List (List TV)) (w:World) (e:Ending) (w':World):Prop where
 ex:∃ v:Value,e=.returned v/\TLL w' w.heap.size Z v L/\Upd [] w w'
theorem aqW (n0 n1:Nat) (Z:List Nat) (v vo:Value) (L:List TV) (o:List Nat) (n:Nat) (w:World) (h:TLs w n0 Z v L) (hZ:∀ k,k∈Z->k<w.heap.size) (hl:L.length<=4194304)
  (hn:∀ t,t∈L->t.n=n) (hn6:n<=8) (ho:w.ownsRow n1 3 1 vo o.length (acf o)) (hol:o.length<=8) (hon:∀ x,x∈o->x<n) :
  Calls Tryz.prog 131 #[v,vo] w fun e w'=>aRt Z (ag5 (acw L) o) w e w':=by
 obtain ⟨ti,hi2,hz2,hs2,hb2⟩:=info_parts Tryz.infoTabs;have HI:=Lib.hid (And.intro hi2 (And.intro hz2 (And.intro hs2 hb2)));have HZ:=Lib.hid hZ;have HUN:=Lib.hid (av5 n0 Z v L w h hZ (by omega))
 have HN:Hid (∀ t,t∈acw L->t.n=n):=fun t ht=>hn t (afO.1 ht)
 have HON:=Lib.hid hon;have hul:(acw L).length<=4194304:=Nat.le_trans (ag8 L) hl;obtain ⟨oa,oc,rfl,hof⟩:=abI ho;have HO:=Lib.hid ho;generalize acw L=C at *;clear h hZ hi2 hz2 hs2 hb2 hn ho hon hl
 go_enter Tryz.func131,Tryz.ntmps131
 go_wp2_with fail;refine HUN.out.mono ?_;rintro e w1 hE;obtain ⟨cv,rfl,hC,hu1⟩:=hE.ex;have HC:=Lib.hid (And.intro hC hu1);clear hC hu1 hE HUN;go_wp2_with fail
 go_loopg [5,6,13] o.length (fun g s5 s6 s13 wr=>∃ i:Nat,o.length-i=g/\i<=o.length/\s13=.int .i64 i/\TLL wr w.heap.size Z s5 (ag5 C (o.take i))/\TLs wr w.heap.size Z s6 (ams C (o.take i))/\Upd [] w wr)
 case atStart=>exact ⟨0,by omega,by omega,rfl,by simpa [ag5] using TLL.nil w1 w.heap.size Z,by simpa [ams] using HC.out.1,HC.out.2⟩
 case round =>
  obtain ⟨i,rfl,hi,rfl,hT,hc,hU⟩:=hrel
  by_cases hlt:i<o.length
  ·obtain ⟨x,hx⟩ : ∃ x,o[i]?=some x:=⟨_,List.getElem?_eq_getElem hlt⟩
   obtain ⟨ga,rfl⟩:=aeP HO.out (by omega);have hxn:=HON.out x (List.mem_of_getElem? hx);have x0:wr.cell? ⟨ga,i,none⟩=some (.int .i64 x):=abf (aaX HO.out fun k hk=>hU.block k (HO.out.lt k hk).2 (by simp)) (by simp [acf,hx]);obtain ⟨aa,ac,hav,_⟩:=hT.form;subst hav;obtain ⟨ca,cc,hcv,_⟩:=hc.form;subst hcv
   have hil:(i:Int)<(o.length:Int):=by omega
   have hcn:=aO6 HN.out (o.take i)
   have hcl:(ams C (o.take i)).length<=536870912:=by
    have h1:=aJc C (o.take i)
    have h2:(2:Nat) ^ (o.take i).length<=128:=by
     have:(o.take i).length<=7:=by rw [List.length_take];omega
     calc 2 ^ (o.take i).length<=2 ^ 7:=Nat.pow_le_pow_right (by omega) this
      _=128:=rfl
    calc _<=_:=h1
     _<=128*4194304:=Nat.mul_le_mul h2 hul
     _=_:=rfl
   have HS:Hid (ag5 C (o.take (i+1))=ag5 C (o.take i)++[ae8 (ams C (o.take i)) x]/\ams C (o.take (i+1))=adG (ams C (o.take i)) x):=by
    show _/\_
    rw [List.take_add_one,hx];exact ⟨aHa _ _ _,aG9 _ _ _⟩
   have hll:(ag5 C (o.take i)).length<=8:=by rw [aqV,List.length_take];omega
   generalize ag5 C (o.take i)=LV at *;generalize ams C (o.take i)=CU at *
   have HZr:Hid (∀ k,k∈Z->k<wr.heap.size):=fun k hk=>Nat.lt_of_lt_of_le (HZ.out k hk) hU.size
   have HT:=Lib.hid (And.intro hT (And.intro hc hU));have HND:=Lib.hid (aFd w.heap.size Z (.slice ca CU.length cc) CU x wr hc HZr.out (by omega) (fun t ht=>by rw [hcn t ht];exact hxn) (by omega));have HCN:=Lib.hid hcn;clear hT hc hU hx hcn;go_wp2_with fail;refine HND.out.mono ?_;rintro e w3 hE;obtain ⟨nv,rfl,hN,hu3⟩:=hE.ex;obtain ⟨na,nc,hnv,_⟩:=hN.form;generalize hNL:(ae8 CU x).length=NL at hnv;subst hnv;clear hNL;have HT3:=Lib.hid (And.intro (HT.out.1.keep0 hu3) (And.intro (HT.out.2.1.keep0 hu3) (And.intro (hN.base HT.out.2.2.size) (HT.out.2.2.trans hu3))))
   have HZ3:Hid (∀ k,k∈Z->k<w3.heap.size):=fun k hk=>Nat.lt_of_lt_of_le (HZr.out k hk) hu3.size
   obtain ⟨xs,abP⟩:=HT3.out.1.row;have aep:=Lib.hid abP
   have HC2:Hid (∀ z,z∈[Value.slice na NL nc]->z.oneCell'=true):=by
    intro z hz
    simp at hz
    subst hz;rfl
   have aB4:=HT3.out.2.2.2.size
   have hbs:w.heap.size<=(w3.alloc (.cells #[.slice na NL nc] 22 (0,0))).heap.size:=by rw [World.size_alloc];omega
   clear hN hu3 hE HND HT abP x0
   go_wp2_with (at_builtin;go_must (refine wpList_append_lies _ rfl (.tmp 17) (.tmp 21) 201 rfl w.heap.size 22 ti _ 1 24 Tryz.underlying201 HI.out.1 HI.out.2.1 HI.out.2.2.1 HI.out.2.2.2 (by rfl) (by decide) _ LV.length xs rfl (aep.out.alloc _) ⟨w3.heap.size,0,none⟩ 1 1 [.slice na NL nc] rfl rfl ?c1 HC2.out (by omega) (by unfold maxLen;omega) (by omega) hbs _ rfl ?_))
   case c1=>exact World.news_of_block (heap_alloc_new w3 (.cells #[.slice na NL nc] 22 (0,0)))
   intro g5 cap w5 ab3 hgr hat ajb
   have HE:Hid (TLL w5 w.heap.size Z (.slice (some ⟨g5,0,none⟩) (LV.length+1) cap) (LV++[ae8 CU x])/\TLs w5 w.heap.size Z (.slice ca CU.length cc) CU/\Upd [] w w5):=by
    have hp:=HT3.out.1.push HT3.out.2.2.1 HZ.out hgr aep.out ab3;refine ⟨hp.1,HT3.out.2.1.other hp.2 (fun k hk=>acE aep.out hk) (fun k hk ⟨z,hz⟩=>⟨z,hz,by have h1:=HZ.out z hz;have h2:=(aep.out.lt k hk).1;omega⟩),HT3.out.2.2.2.then hp.2 fun k hk=>.inr ?_⟩
    have hk':(Value.slice aa LV.length ac).ownBlock=some k:=by simpa using hk
    exact (aep.out.lt k hk').1
   have HGV:=Lib.hid (aFe w.heap.size Z (.slice ca CU.length cc) CU x w5 HE.out.2.1 (fun k hk=>Nat.lt_of_lt_of_le (HZ.out k hk) HE.out.2.2.size) (by omega) (fun t ht=>by rw [HCN.out t ht];exact hxn) (by omega));clear ab3 hgr hat ajb HT3 aep;go_wp2_with fail;refine HGV.out.mono ?_;rintro e w6 hE;obtain ⟨gv,rfl,hG,hu6⟩:=hE.ex;have HF:=Lib.hid (And.intro (HE.out.1.keep0 hu6) (And.intro (hG.base HE.out.2.2.size) (HE.out.2.2.trans hu6)));clear hG hu6 hE HGV HE;go_wp2_with fail
   go_roundg (o.length-(i+1))
   case measure=>omega
   case rel=>exact ⟨i+1,rfl,by omega,by simp,by rw [HS.out.1];exact HF.out.1,by rw [HS.out.2];exact HF.out.2.1,HF.out.2.2⟩
  ·obtain rfl:i=o.length:=by omega
   have hil:¬ ((o.length:Int)<(o.length:Int)):=by omega
   have HE:Hid (TLL wr w.heap.size Z _ (ag5 C o)/\Upd [] w wr):=⟨by rw [List.take_length] at hT;exact hT,hU⟩;clear hT hU hc;go_wp2_with fail;go_ret;exact ⟨_,rfl,HE.out⟩
end Go.Proofs.YtdackeldhdchaaaGreat
