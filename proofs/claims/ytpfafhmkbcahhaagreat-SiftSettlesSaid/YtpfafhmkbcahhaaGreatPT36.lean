import Derived.Test.YtpfafhmkbcahhaaGreatPT35
set_option maxRecDepth 100000
set_option maxHeartbeats 1600000
namespace Go.Proofs.YtpfafhmkbcahhaaGreat
open Go.RowKit Go.Maps Go.ChangeMaps Go.WideShapes
structure RfI (w0:World) (m xb v:Nat) (p0:MPtr) (Z:List Nat) (M:MV) (p g:Nat) (down:Bool) (best0 at0 sw0:Nat) (side0:Int) (j best bj:Nat) (wr:World):Prop where
 s:RfS w0 m xb p0 Z (M.goS p down j) (rfC m v (sw0+j) best (if bj=0 then at0 else posD p down bj) (if bj=0 then side0 else sgn down)) wr
 hj:j<=distD M.n p down
 hb:bj<=j
 bb:best<=25344000
 ok:M.okD p down j
 eq:M.runD p down g (distD M.n p down-j) j best bj=M.runD p down g (distD M.n p down) 0 best0 0
structure RfQ (w0:World) (m xb v:Nat) (p0:MPtr) (Z:List Nat) (M:MV) (p g:Nat) (down:Bool) (best0 at0 sw0:Nat) (side0:Int) (e:Ending) (w':World):Prop where
 en:e=.returned (.tuple #[])
 ex:∃ j best bj,M.runD p down g (distD M.n p down) 0 best0 0=(j,best,bj)/\best<=25344000/\RfS w0 m xb p0 Z (M.goS p down j) (rfC m v (sw0+j) best (if bj=0 then at0 else posD p down bj) (if bj=0 then side0 else sgn down)) w'
theorem rwalk_spec (w0:World) (m xb v:Nat) (p0:MPtr) (Z:List Nat) (M:MV) (p g:Nat) (down:Bool) (best0 at0 sw0:Nat) (side0:Int) (w:World) (h:RfS w0 m xb p0 Z M (rfC m v sw0 best0 at0 side0) w)
  (hG:M.Good) (hv:M.order[p]?=some v) (ht:M.trail.length<=800000) (hsw:sw0<=800000) (hb0:best0<=25344000) (hg:g<=1000) :
  Calls Tryz.prog 78 #[.pointer (some ⟨xb,0,none⟩),.int .i64 (sgn down),.int .i64 g] w fun e w'=>RfQ w0 m xb v p0 Z M p g down best0 at0 sw0 side0 e w':=by
 have hp:p<M.n:=by rw [<- hG.len];exact (List.getElem?_eq_some_iff.1 hv).1
 have hn6:=hG.fit.n6
 have hdl:distD M.n p down<=6:=by unfold distD;split <;> omega
 have HS:Hid (RfI w0 m xb v p0 Z M p g down best0 at0 sw0 side0 0 best0 0 w):=⟨h,by omega,by omega,hb0,fun i hi=>absurd hi (by omega),rfl⟩;have HV:=Lib.hid hv;obtain ⟨sd,hsd⟩ : ∃ sd,sgn down=sd:=⟨_,rfl⟩;have HSD:=Lib.hid hsd;rw [hsd];clear h hv hsd
 go_enter Tryz.func78,Tryz.ntmps78
 go_wp2_with fail
 go_loopg [] (distD M.n p down) (fun gg wr=>∃ (j best bj:Nat),distD M.n p down-j=gg/\RfI w0 m xb v p0 Z M p g down best0 at0 sw0 side0 j best bj wr)
 case atStart=>exact ⟨0,best0,0,rfl,HS.out⟩
 case round =>
  obtain ⟨j,best,bj,rfl,hR⟩:=hrel;have HR:=Lib.hid hR;have hjd:=hR.hj;have hpl:=posD_last hp hjd;have hlast:=last_spec w0 m xb v p0 Z M p j down _ _ _ _ wr hR.s hG HV.out hR.ok hjd;rw [HSD.out] at hlast;clear hR
  by_cases hd:j=distD M.n p down
  ·have hlb:lastB M.n p j down=true:=decide_eq_true (hpl.2.1 hd)
   rw [hlb] at hlast;have HLAST:=Lib.hid hlast
   have HE:Hid (∀ z,Upd [] wr z->RfQ w0 m xb v p0 Z M p g down best0 at0 sw0 side0 (.returned (.tuple #[])) z):=fun z u=>⟨rfl,j,best,bj,by rw [<- HR.out.eq,hd,Nat.sub_self];rfl,HR.out.bb,HR.out.s.keep u⟩
   clear hlast;go_wp2_with fail;refine HLAST.out.mono ?_;rintro e w1 ⟨rfl,hu⟩;have HU:=Lib.hid hu;clear hu;go_wp2_with fail;go_end0;exact HE.out _ HU.out
  ·have hjl:j<distD M.n p down:=by omega
   have hlb:lastB M.n p j down=false:=decide_eq_false (fun e=>hd (hpl.2.2 e));rw [hlb] at hlast;have HLAST:=Lib.hid hlast;have htr:=(M.goS_trail p down j)
   have HST:Hid (∀ z,Upd [] wr z->Calls Tryz.prog 80 #[.pointer (some ⟨xb,0,none⟩),.int .i64 sd] z fun e w'=>e=.returned (.int .i64 ((M.goS p down j).exchE (lvlD p down j))) /\
     RfS w0 m xb p0 Z (M.goS p down (j+1)) (pickC ((M.goS p down j).exchE (lvlD p down j)) (rfC m v (sw0+j+1) best (if bj=0 then at0 else posD p down bj) (if bj=0 then side0 else sgn down)) (rfC m v (sw0+j) best (if bj=0 then at0 else posD p down bj) (if bj=0 then side0 else sgn down))) w'):=fun z u=>by
    rw [<- HSD.out];exact rstep_spec w0 m xb v p0 Z M p j down (sw0+j) best _ _ z (HR.out.s.keep u) hG HV.out HR.out.ok hjl (by omega) (by omega)
   obtain ⟨E,hE⟩ : ∃ E,(M.goS p down j).exchE (lvlD p down j)=E:=⟨_,rfl⟩;rw [hE] at HST;have HEE:=Lib.hid hE;clear hlast hE htr;go_wp2_with fail;refine HLAST.out.mono ?_;rintro e w1 ⟨rfl,hu⟩;have HU:=Lib.hid hu;clear hu;go_wp2_with fail;refine (HST.out _ HU.out).mono ?_;rintro e w2 ⟨rfl,hq⟩
   by_cases he:E=0
   ·subst he
    have HQ:Hid (RfS w0 m xb p0 Z (M.goS p down (j+1)) (rfC m v (sw0+j+1) best (if bj=0 then at0 else posD p down bj) (if bj=0 then side0 else sgn down)) w2):=hq
    have hok2:M.okD p down (j+1):=fun i hi=>by
     by_cases e:i=j
     ·subst e;exact HEE.out
     ·exact HR.out.ok i (by omega)
    obtain ⟨L,hL⟩ : ∃ L,(M.goS p down (j+1)).live=L:=⟨_,rfl⟩
    have hLb:L<=25344000:=by rw [<- hL];exact (hG.goS p down (j+1)).fit.lev_leS
    have HLV:=Lib.hid (HQ.out.live (hG.goS p down (j+1)));rw [hL] at HLV;obtain ⟨l1,l2⟩:=hG.lvl HV.out hok2 (by omega)
    have HLO:Hid (∀ x,RfS w0 m xb p0 Z (M.goS p down (j+1)) (rfC m v (sw0+j+1) best (if bj=0 then at0 else posD p down bj) (if bj=0 then side0 else sgn down)) x->∀ z,Upd [] x z->Calls Tryz.prog 76 #[.pointer (some ⟨m,0,none⟩),.int .i64 v] z fun e w'=>e=.returned (.int .i64 (posD p down (j+1)))/\w'=z):=fun x hx z u=>by
     rw [<- l2];exact hx.level (hG.goS p down (j+1)) l1 z u
    have hbb:=HR.out.bb
    have hm1:IntKind.i64.wrap ((L:Int)*100)=((L*100:Nat):Int):=by rw [IntWalk.i64_in _ (by omega)];omega
    have HEQ:=Lib.hid HR.out.eq;have hjb:=HR.out.hb;have HOK:=Lib.hid hok2
    have HSTOP:Hid (∀ best',bestB L best=best'->best'*g<L*100->M.runD p down g (distD M.n p down) 0 best0 0=(j+1,best',bestJ L best (j+1) bj)):=fun best' hb' hgr=>by
     rw [<- HEQ.out,show distD M.n p down-j=(distD M.n p down-(j+1))+1 by omega];unfold MV.runD;rw [if_neg (by rw [HEE.out];simp),hL,hb',if_pos hgr]
    have HGO:Hid (∀ best',bestB L best=best'->¬ best'*g<L*100->M.runD p down g (distD M.n p down-(j+1)) (j+1) best' (bestJ L best (j+1) bj)=M.runD p down g (distD M.n p down) 0 best0 0):=fun best' hb' hgr=>by
     rw [<- HEQ.out,show distD M.n p down-j=(distD M.n p down-(j+1))+1 by omega]
     conv=>rhs;unfold MV.runD
     rw [if_neg (by rw [HEE.out];simp),hL,hb',if_neg hgr]
    have x0:w2.cell? ⟨xb,0,none⟩=some (.pointer (some ⟨m,0,none⟩)):=cell_at HQ.out.blk rfl;clear hq hok2 l1 l2 hpl hlb HLAST HST HS;go_wp2_with fail;refine (HLV.out _ (Upd.refl _ _)).mono ?_;rintro e w3 ⟨rfl,hu⟩;have hq3:=HQ.out.keep hu;have HQ3:=Lib.hid hq3;have y0:w3.cell? ⟨xb,0,none⟩=some (.pointer (some ⟨m,0,none⟩)):=cell_at hq3.blk rfl;have y1:w3.cell? ⟨xb,1,none⟩=some (.int .i64 v):=cell_at hq3.blk rfl;have y3:w3.cell? ⟨xb,3,none⟩=some (.int .i64 best):=cell_at hq3.blk rfl;have f3:=frozen_at 3 hq3.blk;have f4:=frozen_at 4 hq3.blk;have f5:=frozen_at 5 hq3.blk
    have hm2:∀ q:Nat,q<=25344000->IntKind.i64.wrap ((q:Int)*(g:Int))=((q*g:Nat):Int):=fun q hq=>by
     have:=Nat.mul_le_mul hq hg
     rw [<- Int.natCast_mul];exact IntWalk.i64_in _ (by omega)
    clear x0 hu hq3
    by_cases hlt:L<best
    ·have hltI:(L:Int)<(best:Int):=by omega
     have hbB:bestB L best=L:=by unfold bestB;rw [if_pos hlt]
     have hbJ:bestJ L best (j+1) bj=j+1:=by unfold bestJ;rw [if_pos hlt]
     have hm3:=hm2 L hLb;have y4:w3.cell? ⟨xb,4,none⟩=some (.int .i64 (if bj=0 then at0 else posD p down bj:Nat)):=cell_at HQ3.out.blk rfl;have y5:w3.cell? ⟨xb,5,none⟩=some (.int .i64 (if bj=0 then side0 else sgn down)):=cell_at HQ3.out.blk rfl;generalize (if bj=0 then at0 else posD p down bj)=AT at *;generalize (if bj=0 then side0 else sgn down)=SI at *
     have HS2:Hid (∀ z,Upd [] w3 z->RfS w0 m xb p0 Z (M.goS p down (j+1)) (rfC m v (sw0+(j+1)) L (posD p down (j+1)) sd) (((z.setCell ⟨xb,3,none⟩ (.int .i64 L)).setCell ⟨xb,4,none⟩ (.int .i64 (posD p down (j+1)))).setCell ⟨xb,5,none⟩ (.int .i64 sd))):=fun z u=>by
      have:=(((HQ3.out.keep u).cell (j:=3) (v:=.int .i64 L)).cell (j:=4) (v:=.int .i64 (posD p down (j+1)))).cell (j:=5) (v:=.int .i64 sd);exact this
     clear hm2;go_upto_region 4 with fail
     go_cut [] from 26 to 45 (fun wx=>RfS w0 m xb p0 Z (M.goS p down (j+1)) (rfC m v (sw0+(j+1)) L (posD p down (j+1)) sd) wx)
     case first =>
      go_region_with (go_at_call 76;refine (HLO.out _ HQ3.out _ (by first | exact (Upd.refl _ _).drew | exact (Upd.refl _ _))).mono ?_;rintro e w10 ⟨rfl,rfl⟩)
      all_goals
       go_wp2_with fail;go_meet;exact (HS2.out _ (Upd.refl _ _)).keep (Upd.refl _ _).drew
     case rest =>
      have hq4:RfS w0 m xb p0 Z (M.goS p down (j+1)) (rfC m v (sw0+(j+1)) L (if bestJ L best (j+1) bj=0 then at0 else posD p down (bestJ L best (j+1) bj)) (if bestJ L best (j+1) bj=0 then side0 else sgn down)) wc:=by
       rw [hbJ,if_neg (by omega),if_neg (by omega),HSD.out];exact hcut
      have z3:wc.cell? ⟨xb,3,none⟩=some (.int .i64 L):=cell_at hcut.blk rfl;have HQ4:=Lib.hid hq4;clear hcut hq4 y0 y1 y3 y4 y5 f3 f4 f5 HLO HS2
      by_cases hgr:L*g<L*100
      ·have hgI:((L*g:Nat):Int)<((L*100:Nat):Int):=by omega
       have HE:Hid (RfQ w0 m xb v p0 Z M p g down best0 at0 sw0 side0 (.returned (.tuple #[])) wc):=⟨rfl,j+1,L,_,HSTOP.out L hbB hgr,hLb,HQ4.out⟩;go_wp2_with fail;go_end0;exact HE.out
      ·have hgI:¬ ((L*g:Nat):Int)<((L*100:Nat):Int):=by omega
       have HE:Hid (RfI w0 m xb v p0 Z M p g down best0 at0 sw0 side0 (j+1) L (bestJ L best (j+1) bj) wc):=⟨HQ4.out,hjl,by unfold bestJ;split <;> omega,hLb,HOK.out,HGO.out L hbB hgr⟩;go_wp2_with fail
       go_roundg (distD M.n p down-(j+1))
       case measure=>omega
       case rel=>exact ⟨j+1,L,_,rfl,HE.out⟩
    ·have hltI:¬ (L:Int)<(best:Int):=by omega
     have hbB:bestB L best=best:=by unfold bestB;rw [if_neg hlt]
     have hbJ:bestJ L best (j+1) bj=bj:=by unfold bestJ;rw [if_neg hlt]
     have hm3:=hm2 best hbb
     have HQ4:Hid (RfS w0 m xb p0 Z (M.goS p down (j+1)) (rfC m v (sw0+(j+1)) best (if bestJ L best (j+1) bj=0 then at0 else posD p down (bestJ L best (j+1) bj)) (if bestJ L best (j+1) bj=0 then side0 else sgn down)) w3):=by
      rw [hbJ,<- Nat.add_assoc];exact HQ3.out
     clear hm2 y0 y1 f3 f4 f5 HLO
     by_cases hgr:best*g<L*100
     ·have hgI:((best*g:Nat):Int)<((L*100:Nat):Int):=by omega
      have HE:Hid (RfQ w0 m xb v p0 Z M p g down best0 at0 sw0 side0 (.returned (.tuple #[])) w3):=⟨rfl,j+1,best,_,HSTOP.out best hbB hgr,hbb,HQ4.out⟩;go_wp2_with fail;go_end0;exact HE.out
     ·have hgI:¬ ((best*g:Nat):Int)<((L*100:Nat):Int):=by omega
      have HE:Hid (RfI w0 m xb v p0 Z M p g down best0 at0 sw0 side0 (j+1) best (bestJ L best (j+1) bj) w3):=⟨HQ4.out,hjl,by unfold bestJ;split <;> omega,hbb,HOK.out,HGO.out best hbB hgr⟩;go_wp2_with fail
      go_roundg (distD M.n p down-(j+1))
      case measure=>omega
      case rel=>exact ⟨j+1,best,_,rfl,HE.out⟩
   ·have he3:(E == 0)=false:=by simpa using he
    have HE:Hid (RfQ w0 m xb v p0 Z M p g down best0 at0 sw0 side0 (.returned (.tuple #[])) w2):=by
     unfold pickC at hq;rw [if_neg he] at hq;refine ⟨rfl,j,best,bj,?_,HR.out.bb,?_⟩
     ·rw [<- HR.out.eq,show distD M.n p down-j=(distD M.n p down-(j+1))+1 by omega]
      unfold MV.runD;rw [if_pos (by rw [HEE.out];exact he)]
     ·have e:M.goS p down (j+1)=M.goS p down j:=by
       show (M.goS p down j).exch (lvlD p down j)=_
       exact MV.exch_no (by rw [HEE.out];exact he)
      rw [<- e];exact hq
    clear hq;go_wp2_with fail;go_end0;exact HE.out
theorem rback_spec (w0:World) (m xb v:Nat) (p0:MPtr) (Z:List Nat) (M:MV) (p j k:Nat) (down:Bool) (best at_ sw:Nat) (side:Int) (w:World) (h:RfS w0 m xb p0 Z (M.goS p down j) (rfC m v sw best at_ side) w)
  (hG:M.Good) (hv:M.order[p]?=some v) (hok:M.okD p down j) (hj:j<=distD M.n p down) (hk:k<=j) (ht:M.trail.length<=800000) (hsw:sw<=800000) :
  Calls Tryz.prog 79 #[.pointer (some ⟨xb,0,none⟩),.int .i64 (posD p down k)] w fun e w'=>e=.returned (.tuple #[])/\RfS w0 m xb p0 Z (M.goS p down k) (rfC m v (sw+(j-k)) best at_ side) w':=by
 have hp:p<M.n:=by rw [<- hG.len];exact (List.getElem?_eq_some_iff.1 hv).1
 have hn6:=hG.fit.n6
 have hdl:distD M.n p down<=6:=by unfold distD;split <;> omega
 have HS:=Lib.hid h;have HV:=Lib.hid hv;clear h hv;obtain ⟨goal,hgoal⟩ : ∃ goal,posD p down k=goal:=⟨_,rfl⟩;rw [hgoal]
 go_enter Tryz.func79,Tryz.ntmps79
 go_wp2_with fail
 go_loopg [] (j-k) (fun gg wr=>∃ i:Nat,i-k=gg/\k<=i/\i<=j/\RfS w0 m xb p0 Z (M.goS p down i) (rfC m v (sw+(j-i)) best at_ side) wr)
 case atStart=>exact ⟨j,rfl,hk,Nat.le_refl _,by rw [Nat.sub_self];exact HS.out⟩
 case round =>
  obtain ⟨i,rfl,hki,hij,hq⟩:=hrel;have c0:wr.cell? ⟨xb,0,none⟩=some (.pointer (some ⟨m,0,none⟩)):=cell_at hq.blk rfl;have c1:wr.cell? ⟨xb,1,none⟩=some (.int .i64 v):=cell_at hq.blk rfl;have hinj:=posD_inj (n:=M.n) (p:=p) (down:=down) (j:=i) (k:=k) (by omega) (by omega);rw [hgoal] at hinj
  have hoki:M.okD p down i:=fun x hx=>hok x (by omega)
  obtain ⟨l1,l2⟩:=hG.lvl HV.out hoki (by omega);have HLV:=Lib.hid (hq.level (hG.goS p down i) l1);rw [l2] at HLV
  by_cases he:i=k
  ·subst he
   rw [hinj.2 rfl] at HLV
   have HE:Hid (∀ z,Upd [] wr z->RfS w0 m xb p0 Z (M.goS p down i) (rfC m v (sw+(j-i)) best at_ side) z):=fun z u=>hq.keep u
   clear hq;go_wp2_with fail
   go_quiet ((go_at_call 76;exact Calls.quiet_of_same (HLV.out _ ((Upd.refl [] wr).drewN _))))
   go_wp2_with fail;go_end0;exact ⟨rfl,HE.out _ ((Upd.refl _ _).drewN _)⟩
  ·obtain ⟨i,rfl⟩ : ∃ i',i=i'+1:=⟨i-1,by omega⟩
   have hne:¬ ((posD p down (i+1):Nat):Int)=(goal:Int):=fun e=>he (hinj.1 (by omega))
   have hne2:(((posD p down (i+1):Nat):Int) == (goal:Int))=false:=by simpa using hne
   have htl:=MV.goS_last hoki;have hud:=MV.goS_undo hG.len hoki;have htn:=M.goS_trail p down i;obtain ⟨_,hl1,_,_⟩:=MV.exch_yes (hoki i (by omega));have hlen:=(hG.goS p down (i+1)).len;have hni:=(M.goS_n p down (i+1)).1;have hni2:=(M.goS_n p down i).1
   have HU:Hid (∀ z,Upd [] wr z->Calls Tryz.prog 101 #[.pointer (some ⟨m,0,none⟩)] z fun e w'=>e=.returned (.tuple #[.int .i64 (lvlD p down i),.int .i64 0])/\RfS w0 m xb p0 Z (M.goS p down i) (rfC m v (sw+(j-(i+1))) best at_ side) w'):=fun z u=>by
    have hz:=hq.keep u;obtain ⟨q,a1,_⟩:=hz.ex;refine (mundo_spec m (lvlD p down i) (M.goS p down i).trail _ q _ z a1 htl (by omega) (by rw [Int.toNat_natCast] at hl1;omega) (by omega)).mono ?_;rintro e w' ⟨he,hE⟩;rw [hud] at hE;refine ⟨he,hz.call fun p' a'=>?_⟩
    have:p'=q:=by
     have e1:=a'.blk;rw [a1.blk] at e1
     cases q;cases p'
     simp at e1
     simp [e1]
    rw [this];exact hE
   have hsw1:sw+(j-i)=sw+(j-(i+1))+1:=by omega
   clear hq htl hud htn hinj l1 l2 hl1 hlen hni hni2 hoki;go_wp2_with fail
   go_quiet ((go_at_call 76;exact Calls.quiet_of_same (HLV.out _ ((Upd.refl [] wr).drewN _))))
   go_wp2_with fail;refine (HU.out _ ((Upd.refl _ _).drewN _)).mono ?_;rintro e w1 ⟨rfl,hr⟩;obtain ⟨s1,hs1⟩ : ∃ s1,sw+(j-(i+1))=s1:=⟨_,rfl⟩;rw [hs1] at hr hsw1
   have hs900:s1<=1000000:=by omega
   have x2:w1.cell? ⟨xb,2,none⟩=some (.int .i64 s1):=cell_at hr.blk rfl;have f2:=frozen_at 2 hr.blk;have hw1:IntKind.i64.wrap ((s1:Int)+1)=((s1:Int)+1):=IntWalk.i64_in _ (by omega)
   have HN:Hid (RfS w0 m xb p0 Z (M.goS p down i) (rfC m v (s1+1) best at_ side) (w1.setCell ⟨xb,2,none⟩ (.int .i64 ((s1:Int)+1)))):=by
    have:=hr.cell (j:=2) (v:=.int .i64 ((s1:Int)+1));exact this
   clear hr c0 c1;go_wp2_with fail
   go_roundg (i-k)
   case measure=>omega
   case rel=>exact ⟨i,rfl,by omega,by omega,by rw [hsw1];exact HN.out⟩
end Go.Proofs.YtpfafhmkbcahhaaGreat
