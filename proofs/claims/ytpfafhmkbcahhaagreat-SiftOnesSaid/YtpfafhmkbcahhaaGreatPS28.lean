import Derived.Test.YtpfafhmkbcahhaaGreatPS27
import Derived.Laws.ResultCell
import Derived.Laws.Rows
namespace Go.Proofs.YtpfafhmkbcahhaaGreat
open Go.RowKit Go.Maps Go.ChangeMaps Go.WideShapes
structure SwS (w0:World) (wb bx b:Nat) (K0:KV) (F0:List Nat) (M:MV) (C:Array Value) (w:World):Prop where
  ex:∃ (K:KV) (F:List Nat),KerAt w b K F∧KM K M∧Stay K0 K∧wb∉F∧bx∉F∧Upd (wb :: F0) w0 w∧Sub (wb :: F0) w0 (wb :: F)
  blk:w.heap[wb]?=some (.cells C 132 (0,0))
  box:w.heap[bx]?=some (.cells #[.pointer (some ⟨wb,0,none⟩)] 129 (0,0))
theorem SwS.keep {w0 w w':World} {wb bx b:Nat} {K0:KV} {F0:List Nat} {M:MV} {C:Array Value} (h:SwS w0 wb bx b K0 F0 M C w) (u:Upd [] w w'):SwS w0 wb bx b K0 F0 M C w':=by
  obtain ⟨K,F,a1,a2,a3,a4,a5,a6,a7⟩:=h.ex;exact ⟨⟨K,F,a1.upd u (by simp),a2,a3,a4,a5,a6.trans (u.mono (by simp)),a7⟩,(u.block _ (heap_lt h.blk) (by simp)).trans h.blk,(u.block _ (heap_lt h.box) (by simp)).trans h.box⟩
theorem SwS.cell {w0 w:World} {wb bx b j:Nat} {K0:KV} {F0:List Nat} {M:MV} {C:Array Value} {v:Value} (h:SwS w0 wb bx b K0 F0 M C w):SwS w0 wb bx b K0 F0 M (C.setIfInBounds j v) (w.setCell ⟨wb,j,none⟩ v):=by
  obtain ⟨K,F,a1,a2,a3,a4,a5,a6,a7⟩:=h.ex;have u:Upd [wb] w (w.setCell ⟨wb,j,none⟩ v):=(Upd.refl _ w).setCell (p:=⟨wb,j,none⟩) (.inl (by simp)) _
  have hne:bx≠wb:=by
    rintro rfl;have e:=h.blk;rw [h.box] at e
    simp at e
  exact ⟨⟨K,F,a1.upd u (fun k hk=>by simp; rintro rfl; exact a4 hk),a2,a3,a4,a5,a6.trans (u.mono (fun k hk=>by simp at hk; simp [hk])),a7⟩,heap_set_eq h.blk _,(heap_set_ne hne).trans h.box⟩
theorem SwS.next {w0 w w':World} {wb bx b:Nat} {K0 K:KV} {F0 F:List Nat} {M':MV} {C C':Array Value} (a3:Stay K0 K) (a5:bx∉F) (a6:Upd (wb :: F0) w0 w) (a7:Sub (wb :: F0) w0 (wb :: F)) (blk:w.heap[wb]?=some (.cells C 132 (0,0)))
    (box:w.heap[bx]?=some (.cells #[.pointer (some ⟨wb,0,none⟩)] 129 (0,0))) (q:SwQ wb b K F M' C' w w'):SwS w0 wb bx b K0 F0 M' C' w':=by
  obtain ⟨K',F',c1,c2,c3,c4,c5,c6⟩:=q.ex
  have hne:bx≠wb:=by
    rintro rfl;rw [box] at blk
    simp at blk
  have hbl:=heap_lt box;refine ⟨⟨K',F',c1,c2,a3.trans c3,c4,fun hm=>?_,a6.then c5 fun k hk=>a7 k hk,fun k hk=>?_⟩,q.blk,(c5.block bx hbl (by simp [hne,a5])).trans box⟩
  · rcases c6 bx (by simp [hm]) with h1 | h1
    · simp [hne,a5] at h1
    · omega
  · rcases c6 k hk with h1 | h1
    · exact a7 k h1
    · have:=a6.size; right; omega
def stepF (down:Bool):Nat:=if down then 161 else 163
theorem enters_step (down:Bool):Enters (stepF down):=fun args w=>by cases down <;> simp [stepF,go_sem]
theorem step_any (wb bx b:Nat) (K0:KV) (F0:List Nat) (M:MV) (p:Nat) (down:Bool) (j best place g sw last:Nat) (st:Value) (w0 w:World) (h:SwS w0 wb bx b K0 F0 (M.goS p down j) (swC b (posD p down j) best place g sw last st) w)
    (hp:p < M.n) (h64:M.n≤64) (hj:j < distD M.n p down) (ht:(M.goS p down j).trail.length≤1000000) (hsw:sw≤1000000) :
    Calls Tryz.prog (stepF down) #[.pointer (some ⟨bx,0,none⟩)] w fun e w'=>e=.returned (.int .i64 ((M.goS p down j).exchE (lvlD p down j))) ∧
      SwS w0 wb bx b K0 F0 (M.goS p down (j + 1)) (pickC ((M.goS p down j).exchE (lvlD p down j)) (swC b (posD p down (j + 1)) best place g (sw + 1) last st) (swC b (posD p down j) best place g sw last st)) w':=by
  obtain ⟨K,F,a1,a2,a3,a4,a5,a6,a7⟩:=h.ex
  cases down with
  | true =>
    simp only [distD,if_true] at hj
    have e1:lvlD p true j=posD p true j:=rfl
    have e2:posD p true (j + 1)=posD p true j + 1:=by simp [posD]; omega
    rw [e1,e2];refine Calls.mono (step1_spec wb bx b K F (M.goS p true j) (posD p true j) best place g sw last st w h.blk h.box a1 a2 a4 ht hsw (by simp [posD]; omega)) ?_;rintro e w' ⟨rfl,q⟩;exact ⟨rfl,SwS.next a3 a5 a6 a7 h.blk h.box q⟩
  | false =>
    simp only [distD,Bool.false_eq_true,if_false] at hj
    have e1:lvlD p false j=posD p false j - 1:=by simp [lvlD,posD]; omega
    have e2:posD p false (j + 1)=posD p false j - 1:=by simp [posD]; omega
    have q2:M.goS p false (j + 1)=(M.goS p false j).exch (posD p false j - 1:Nat):=by show (M.goS p false j).exch (lvlD p false j:Nat)=_; rw [e1]
    rw [q2,e1,e2];refine Calls.mono (step2_spec wb bx b K F (M.goS p false j) (posD p false j) best place g sw last st w h.blk h.box a1 a2 a4 ht hsw (by simp [posD]; omega) (by simp [posD]; omega)) ?_;rintro e w' ⟨rfl,q⟩;exact ⟨rfl,SwS.next a3 a5 a6 a7 h.blk h.box q⟩
theorem MV.goS_trail {M:MV} (p:Nat) (down:Bool):∀ j,(M.goS p down j).trail.length≤M.trail.length + j
  | 0=>Nat.le_refl _
  | j + 1=>by
    have ih:=MV.goS_trail (M:=M) p down j
    have:∀ (N:MV) (l:Int),(N.exch l).trail.length≤N.trail.length + 1:=fun N l=>by
      unfold MV.exch; split
      · show (N.trail ++ [_]).length≤_; simp
      · omega
    have h2:=this (M.goS p down j) (lvlD p down j)
    show ((M.goS p down j).exch _).trail.length≤_
    omega
theorem KM.live_le {K:KV} {M:MV} (h:KM K M) (hk:K.Ok) (hu:K.Uni):M.live≤1048576:=by
  have h1:=h.live hk hu;have h2:=hk.wf.ok.us;have h3:=hk.wf.ok.lp;have h4:=hk.wf.ok.pm;omega
structure RunI (w0:World) (wb bx b:Nat) (K0:KV) (F0:List Nat) (M:MV) (p g:Nat) (down:Bool) (best0 place0 sw0:Nat) (j best bj:Nat) (wr:World):Prop where
  s:SwS w0 wb bx b K0 F0 (M.goS p down j) (swC b (posD p down j) best (if bj=0 then place0 else posD p down bj) g (sw0 + j) (if down then M.n - 1 else 0) (stepV down bx)) wr
  hj:j≤distD M.n p down
  hb:bj≤j
  bb:best≤1048576
  eq:M.runD p down g (distD M.n p down - j) j best bj=M.runD p down g (distD M.n p down) 0 best0 0
structure RunQ (w0:World) (wb bx b:Nat) (K0:KV) (F0:List Nat) (M:MV) (p g:Nat) (down:Bool) (best0 place0 sw0:Nat) (e:Ending) (w':World):Prop where
  en:e=.returned (.tuple #[])
  ex:∃ j best bj,M.runD p down g (distD M.n p down) 0 best0 0=(j,best,bj)∧best≤1048576∧SwS w0 wb bx b K0 F0 (M.goS p down j) (swC b (posD p down j) best (if bj=0 then place0 else posD p down bj) g (sw0 + j) (if down then M.n - 1 else 0) (stepV down bx)) w'
set_option maxRecDepth 100000 in
set_option maxHeartbeats 1600000 in
theorem run_spec (w0:World) (wb bx b:Nat) (K0:KV) (F0:List Nat) (M:MV) (p g:Nat) (down:Bool) (best0 place0 sw0:Nat) (w:World) (h:SwS w0 wb bx b K0 F0 M (swC b p best0 place0 g sw0 (if down then M.n - 1 else 0) (stepV down bx)) w)
    (hp:p < M.n) (h64:M.n≤64) (ht:M.trail.length≤900000) (hsw:sw0≤900000) (hb0:best0≤1048576) (hg:g≤1000) :
    Calls Tryz.prog 73 #[.pointer (some ⟨wb,0,none⟩)] w fun e w'=>RunQ w0 wb bx b K0 F0 M p g down best0 place0 sw0 e w':=by
  have hen:=enters_step down
  have hdl:distD M.n p down≤64:=by unfold distD; split <;> omega
  have HS:Hid (RunI w0 wb bx b K0 F0 M p g down best0 place0 sw0 0 best0 0 w):=⟨by simpa [MV.goS,posD] using h,by omega,by omega,hb0,rfl⟩;have hst:stepV down bx=.func (.func (stepF down)) #[] #[.pointer (some ⟨bx,0,none⟩)]:=rfl;obtain ⟨fl,hfl⟩ : ∃ fl,stepF down=fl:=⟨_,rfl⟩;obtain ⟨last,hla⟩ : ∃ last,(if down then M.n - 1 else 0)=last:=⟨_,rfl⟩;rw [hfl] at hst hen;clear h
  go_enter Tryz.func73,Tryz.ntmps73
  go_wp2_with fail
  go_loopg [] (distD M.n p down) (fun gg wr=>∃ (j best bj:Nat),distD M.n p down - j=gg∧RunI w0 wb bx b K0 F0 M p g down best0 place0 sw0 j best bj wr)
  case atStart=>exact ⟨0,best0,0,rfl,HS.out⟩
  case round =>
    obtain ⟨j,best,bj,rfl,hR⟩:=hrel;have hs:=hR.s;rw [hla] at hs;have c0:wr.cell? ⟨wb,0,none⟩=some (.pointer (some ⟨b,0,none⟩)):=cell_at hs.blk rfl;have c1:wr.cell? ⟨wb,1,none⟩=some (.int .i64 (posD p down j)):=cell_at hs.blk rfl;have c6:wr.cell? ⟨wb,6,none⟩=some (.int .i64 last):=cell_at hs.blk rfl;have c7:wr.cell? ⟨wb,7,none⟩=some (stepV down bx):=cell_at hs.blk rfl;rw [hst] at c7;have HR:=Lib.hid hR;have hjd:=hR.hj;have hpl:=posD_last hp hjd;rw [hla] at hpl;clear hR hs
    by_cases hd:j=distD M.n p down
    · have hpe:posD p down j=last:=hpl.2.1 hd
      have HE:Hid (∀ z,Upd [] wr z→RunQ w0 wb bx b K0 F0 M p g down best0 place0 sw0 (.returned (.tuple #[])) z):=fun z u=>⟨rfl,j,best,bj,by rw [← HR.out.eq,hd,Nat.sub_self]; rfl,HR.out.bb,HR.out.s.keep u⟩
      rw [hpe] at c1;clear hst hfl;go_wp2_with fail
      go_quiet (fail)
      go_wp2_with fail;go_end0;exact HE.out _ ((Upd.refl _ _).drewN _)
    · have hjl:j < distD M.n p down:=by omega
      have hpe:¬ posD p down j=last:=fun e=>hd (hpl.2.2 e)
      have hpe2:¬ ((posD p down j:Nat):Int)=(last:Int):=by omega
      have hpe3:(((posD p down j:Nat):Int) == (last:Int))=false:=by simpa using hpe2
      have hpe4:(((posD p down j:Nat):Int) != (last:Int))=true:=by rw [bne,hpe3]; rfl
      have htr:=(M.goS_trail p down j)
      have HST:Hid (∀ z,Upd [] wr z→Calls Tryz.prog fl #[.pointer (some ⟨bx,0,none⟩)] z fun e w'=>e=.returned (.int .i64 ((M.goS p down j).exchE (lvlD p down j))) ∧
          SwS w0 wb bx b K0 F0 (M.goS p down (j + 1)) (pickC ((M.goS p down j).exchE (lvlD p down j)) (swC b (posD p down (j + 1)) best (if bj=0 then place0 else posD p down bj) g (sw0 + j + 1) (if down then M.n - 1 else 0) (stepV down bx)) (swC b (posD p down j) best (if bj=0 then place0 else posD p down bj) g (sw0 + j) (if down then M.n - 1 else 0) (stepV down bx))) w'):=fun z u=>by
        rw [← hfl]; exact step_any wb bx b K0 F0 M p down j best _ g (sw0 + j) _ _ w0 z (HR.out.s.keep u) hp h64 hjl (by omega) (by omega)
      obtain ⟨E,hE⟩ : ∃ E,(M.goS p down j).exchE (lvlD p down j)=E:=⟨_,rfl⟩;rw [hE] at HST;have HEE:=Lib.hid hE;generalize hPC:pickC E (swC b (posD p down (j + 1)) best (if bj=0 then place0 else posD p down bj) g (sw0 + j + 1) (if down then M.n - 1 else 0) (stepV down bx)) (swC b (posD p down j) best (if bj=0 then place0 else posD p down bj) g (sw0 + j) (if down then M.n - 1 else 0) (stepV down bx))=PC at HST;have HPC:=Lib.hid hPC;have HFL:=Lib.hid hfl;clear hE hPC htr hst hfl;go_upto_region 0 with fail
      go_cut [19] from 3 to 19 (fun s19 wx=>s19=.bool (decide (E=0))∧SwS w0 wb bx b K0 F0 (M.goS p down (j + 1)) PC wx)
      case first =>
        cases down with
        | true =>
          obtain rfl:fl=161:=HFL.out.symm;clear hen hla
          go_region_with (go_at_call 161; refine (HST.out _ (by first | exact (Upd.refl _ _).drew | exact (Upd.refl _ _))).mono ?_; rintro e w1 ⟨rfl,q⟩; have HQ:=Lib.hid q; clear q)
          all_goals
            go_wp2_with fail;go_meet;exact ⟨by congr 1,HQ.out⟩
        | false =>
          obtain rfl:fl=163:=HFL.out.symm;clear hen hla
          go_region_with (go_at_call 163; refine (HST.out _ (by first | exact (Upd.refl _ _).drew | exact (Upd.refl _ _))).mono ?_; rintro e w1 ⟨rfl,q⟩; have HQ:=Lib.hid q; clear q)
          all_goals
            go_wp2_with fail;go_meet;exact ⟨by congr 1,HQ.out⟩
      case rest =>
        obtain ⟨rfl,hq⟩:=hcut;obtain ⟨pl,hpl2⟩ : ∃ pl,(if bj=0 then place0 else posD p down bj)=pl:=⟨_,rfl⟩;have HPL:=Lib.hid hpl2;rw [hpl2,hla] at HPC;clear c0 c1 c6 c7 HST hen hpl2
        by_cases he:E=0
        · subst he
          obtain ⟨L,hL⟩ : ∃ L,(M.goS p down (j + 1)).live=L:=⟨_,rfl⟩
          obtain rfl:swC b (posD p down (j + 1)) best pl g (sw0 + j + 1) last (stepV down bx)=PC:=by
            have:=HPC.out; unfold pickC at this; rw [if_pos rfl] at this; exact this
          have c0:wc.cell? ⟨wb,0,none⟩=some (.pointer (some ⟨b,0,none⟩)):=cell_at hq.blk rfl;have c1:wc.cell? ⟨wb,1,none⟩=some (.int .i64 (posD p down (j + 1))):=cell_at hq.blk rfl;have c2:wc.cell? ⟨wb,2,none⟩=some (.int .i64 best):=cell_at hq.blk rfl;have c3:wc.cell? ⟨wb,3,none⟩=some (.int .i64 pl):=cell_at hq.blk rfl;have c4:wc.cell? ⟨wb,4,none⟩=some (.int .i64 g):=cell_at hq.blk rfl;have f2:=frozen_at 2 hq.blk;have f3:=frozen_at 3 hq.blk
          have hLV:L≤1048576∧Calls Tryz.prog 39 #[.pointer (some ⟨b,0,none⟩)] wc fun e w'=>e=.returned (.int .i64 (L:Nat))∧w'=wc:=by
            obtain ⟨K,F,a1,a2,_⟩:=hq.ex;have h1:=a2.live_le a1.ok a1.uni;have h2:=a2.live a1.ok a1.uni;rw [hL] at h1 h2;have h3:=live_at b K F wc a1;rw [h2] at h3;exact ⟨h1,h3⟩
          have HQ:=Lib.hid hq;have HLV:=Lib.hid hLV.2;have hLb:=hLV.1;have hbb:=HR.out.bb
          have hm1:IntKind.i64.wrap ((L:Int) * 100)=((L * 100:Nat):Int):=by rw [IntWalk.i64_in _ (by omega)]; omega
          have HEQ:=Lib.hid HR.out.eq;have hjb:=HR.out.hb
          have HSTOP:Hid (∀ best',bestB L best=best'→best' * g < L * 100→M.runD p down g (distD M.n p down) 0 best0 0=(j + 1,best',bestJ L best (j + 1) bj)):=fun best' hb' hgr=>by
            rw [← HEQ.out,show distD M.n p down - j=(distD M.n p down - (j + 1)) + 1 by omega];unfold MV.runD;rw [if_neg (by rw [HEE.out]; simp),hL,hb',if_pos hgr]
          have HGO:Hid (∀ best',bestB L best=best'→¬ best' * g < L * 100→M.runD p down g (distD M.n p down - (j + 1)) (j + 1) best' (bestJ L best (j + 1) bj)=M.runD p down g (distD M.n p down) 0 best0 0):=fun best' hb' hgr=>by
            rw [← HEQ.out,show distD M.n p down - j=(distD M.n p down - (j + 1)) + 1 by omega]
            conv=>rhs; unfold MV.runD
            rw [if_neg (by rw [HEE.out]; simp),hL,hb',if_neg hgr]
          clear hq hLV
          by_cases hlt:L < best
          · have hltI:(L:Int) < (best:Int):=by omega
            have hbB:bestB L best=L:=by unfold bestB; rw [if_pos hlt]
            have hbJ:bestJ L best (j + 1) bj=j + 1:=by unfold bestJ; rw [if_pos hlt]
            have hLg:=Nat.mul_le_mul hLb hg
            have hm2:IntKind.i64.wrap ((L:Int) * (g:Int))=((L * g:Nat):Int):=by rw [← Int.natCast_mul]; exact IntWalk.i64_in _ (by omega)
            have HS2:Hid (SwS w0 wb bx b K0 F0 (M.goS p down (j + 1)) (swC b (posD p down (j + 1)) L (if bestJ L best (j + 1) bj=0 then place0 else posD p down (bestJ L best (j + 1) bj)) g (sw0 + (j + 1)) (if down then M.n - 1 else 0) (stepV down bx)) ((wc.setCell ⟨wb,2,none⟩ (.int .i64 L)).setCell ⟨wb,3,none⟩ (.int .i64 (posD p down (j + 1))))):=by
              rw [hbJ,if_neg (by omega),hla,← Nat.add_assoc];exact (HQ.out.cell (j:=2) (v:=.int .i64 L)).cell (j:=3) (v:=.int .i64 (posD p down (j + 1)))
            by_cases hgr:L * g < L * 100
            · have hgI:((L * g:Nat):Int) < ((L * 100:Nat):Int):=by omega
              have HE:Hid (∀ z,Upd [] ((wc.setCell ⟨wb,2,none⟩ (.int .i64 L)).setCell ⟨wb,3,none⟩ (.int .i64 (posD p down (j + 1)))) z→RunQ w0 wb bx b K0 F0 M p g down best0 place0 sw0 (.returned (.tuple #[])) z):=fun z u =>
                ⟨rfl,j + 1,L,_,HSTOP.out L hbB hgr,hLb,HS2.out.keep u⟩
              go_wp2_with fail;refine HLV.out.mono ?_;rintro e w1 ⟨rfl,rfl⟩;go_wp2_with fail
              go_quiet (fail)
              go_wp2_with fail;go_end0;exact HE.out _ ((Upd.refl _ _).drewN _)
            · have hgI:¬ ((L * g:Nat):Int) < ((L * 100:Nat):Int):=by omega
              have HE:Hid (∀ z,Upd [] ((wc.setCell ⟨wb,2,none⟩ (.int .i64 L)).setCell ⟨wb,3,none⟩ (.int .i64 (posD p down (j + 1)))) z→RunI w0 wb bx b K0 F0 M p g down best0 place0 sw0 (j + 1) L (bestJ L best (j + 1) bj) z):=fun z u =>
                ⟨HS2.out.keep u,hjl,by unfold bestJ; split <;> omega,hLb,HGO.out L hbB hgr⟩
              go_wp2_with fail;refine HLV.out.mono ?_;rintro e w1 ⟨rfl,rfl⟩;go_wp2_with fail
              go_quiet (fail)
              go_wp2_with fail
              go_roundg (distD M.n p down - (j + 1))
              case measure=>omega
              case rel=>exact ⟨j + 1,L,_,rfl,HE.out _ ((Upd.refl _ _).drewN _)⟩
          · have hltI:¬ (L:Int) < (best:Int):=by omega
            have hbB:bestB L best=best:=by unfold bestB; rw [if_neg hlt]
            have hbJ:bestJ L best (j + 1) bj=bj:=by unfold bestJ; rw [if_neg hlt]
            have hLg:=Nat.mul_le_mul hbb hg
            have hm2:IntKind.i64.wrap ((best:Int) * (g:Int))=((best * g:Nat):Int):=by rw [← Int.natCast_mul]; exact IntWalk.i64_in _ (by omega)
            have HS2:Hid (SwS w0 wb bx b K0 F0 (M.goS p down (j + 1)) (swC b (posD p down (j + 1)) best (if bestJ L best (j + 1) bj=0 then place0 else posD p down (bestJ L best (j + 1) bj)) g (sw0 + (j + 1)) (if down then M.n - 1 else 0) (stepV down bx)) wc):=by
              rw [hbJ,HPL.out,hla,← Nat.add_assoc];exact HQ.out
            by_cases hgr:best * g < L * 100
            · have hgI:((best * g:Nat):Int) < ((L * 100:Nat):Int):=by omega
              have HE:Hid (∀ z,Upd [] wc z→RunQ w0 wb bx b K0 F0 M p g down best0 place0 sw0 (.returned (.tuple #[])) z):=fun z u =>
                ⟨rfl,j + 1,best,_,HSTOP.out best hbB hgr,hbb,HS2.out.keep u⟩
              go_wp2_with fail;refine HLV.out.mono ?_;rintro e w1 ⟨rfl,rfl⟩;go_wp2_with fail
              go_quiet (fail)
              go_wp2_with fail;go_end0;exact HE.out _ ((Upd.refl _ _).drewN _)
            · have hgI:¬ ((best * g:Nat):Int) < ((L * 100:Nat):Int):=by omega
              have HE:Hid (∀ z,Upd [] wc z→RunI w0 wb bx b K0 F0 M p g down best0 place0 sw0 (j + 1) best (bestJ L best (j + 1) bj) z):=fun z u =>
                ⟨HS2.out.keep u,hjl,by unfold bestJ; split <;> omega,hbb,HGO.out best hbB hgr⟩
              go_wp2_with fail;refine HLV.out.mono ?_;rintro e w1 ⟨rfl,rfl⟩;go_wp2_with fail
              go_quiet (fail)
              go_wp2_with fail
              go_roundg (distD M.n p down - (j + 1))
              case measure=>omega
              case rel=>exact ⟨j + 1,best,_,rfl,HE.out _ ((Upd.refl _ _).drewN _)⟩
        · have he3:decide (E=0)=false:=decide_eq_false he
          rw [he3]
          obtain rfl:swC b (posD p down j) best pl g (sw0 + j) last (stepV down bx)=PC:=by
            have:=HPC.out; unfold pickC at this; rw [if_neg he] at this; exact this
          have HE:Hid (RunQ w0 wb bx b K0 F0 M p g down best0 place0 sw0 (.returned (.tuple #[])) wc):=by
            refine ⟨rfl,j,best,bj,?_,HR.out.bb,?_⟩
            · rw [← HR.out.eq,show distD M.n p down - j=(distD M.n p down - (j + 1)) + 1 by omega]
              unfold MV.runD;rw [if_pos (by rw [HEE.out]; exact he)]
            · rw [HPL.out,hla]
              have e:M.goS p down (j + 1)=M.goS p down j:=by
                show (M.goS p down j).exch (lvlD p down j)=_
                exact MV.exch_no (by rw [HEE.out]; exact he)
              rw [← e]; exact hq
          clear hq;go_wp2_with fail;go_end0;exact HE.out
end Go.Proofs.YtpfafhmkbcahhaaGreat
namespace Go.Proofs.YtpfafhmkbcahhaaGreat
open Go.RowKit Go.Maps Go.ChangeMaps Go.WideShapes
theorem MV.goS_last {M:MV} {p:Nat} {down:Bool} {j:Nat} (hok:M.okD p down (j + 1)):(M.goS p down (j + 1)).trail=(M.goS p down j).trail ++ [lvlD p down j]:=by
  obtain ⟨_,_,_,e⟩:=MV.exch_yes (hok j (by omega))
  show ((M.goS p down j).exch (lvlD p down j)).trail=_
  rw [e]
  show (M.goS p down j).trail ++ [(lvlD p down j:Int).toNat]=_
  rw [Int.toNat_natCast]
set_option maxRecDepth 100000 in
set_option maxHeartbeats 1600000 in
theorem sundo_spec (w0:World) (wb bx b:Nat) (K0:KV) (F0:List Nat) (M:MV) (p j k:Nat) (down:Bool) (best place g sw last:Nat) (st:Value) (w:World) (h:SwS w0 wb bx b K0 F0 (M.goS p down j) (swC b (posD p down j) best place g sw last st) w)
    (ho:M.order.length=M.n) (hok:M.okD p down j) (hj:j≤distD M.n p down) (hk:k≤j) (hp:p < M.n) (h64:M.n≤64) (ht:M.trail.length≤900000) (hsw:sw≤900000) :
    Calls Tryz.prog 74 #[.pointer (some ⟨wb,0,none⟩),.int .i64 (posD p down k)] w fun e w'=>e=.returned (.tuple #[])∧SwS w0 wb bx b K0 F0 (M.goS p down k) (swC b (posD p down k) best place g (sw + (j - k)) last st) w':=by
  have hdl:distD M.n p down≤64:=by unfold distD; split <;> omega
  have HS:=Lib.hid h;clear h;obtain ⟨goal,hgoal⟩ : ∃ goal,posD p down k=goal:=⟨_,rfl⟩;rw [hgoal]
  go_enter Tryz.func74,Tryz.ntmps74
  go_wp2_with fail
  go_loopg [] (j - k) (fun gg wr=>∃ i:Nat,i - k=gg∧k≤i∧i≤j∧SwS w0 wb bx b K0 F0 (M.goS p down i) (swC b (posD p down i) best place g (sw + (j - i)) last st) wr)
  case atStart=>exact ⟨j,rfl,hk,Nat.le_refl _,by rw [Nat.sub_self]; exact HS.out⟩
  case round =>
    obtain ⟨i,rfl,hki,hij,hq⟩:=hrel;have c0:wr.cell? ⟨wb,0,none⟩=some (.pointer (some ⟨b,0,none⟩)):=cell_at hq.blk rfl;have c1:wr.cell? ⟨wb,1,none⟩=some (.int .i64 (posD p down i)):=cell_at hq.blk rfl;have hinj:=posD_inj (n:=M.n) (p:=p) (down:=down) (j:=i) (k:=k) (by omega) (by omega);rw [hgoal] at hinj
    by_cases he:i=k
    · subst he
      rw [hinj.2 rfl] at c1;have HE:=Lib.hid hq;clear hq;go_wp2_with fail;go_end0;rw [← hgoal];exact ⟨rfl,HE.out⟩
    · obtain ⟨i,rfl⟩ : ∃ i',i=i' + 1:=⟨i - 1,by omega⟩
      have hne:¬ ((posD p down (i + 1):Nat):Int)=(goal:Int):=fun e=>he (hinj.1 (by omega))
      have hne2:(((posD p down (i + 1):Nat):Int) == (goal:Int))=false:=by simpa using hne
      have hoki:M.okD p down (i + 1):=fun x hx=>hok x (by omega)
      have htl:=MV.goS_last hoki;have hud:=MV.goS_undo ho hoki;have htn:=M.goS_trail p down (i + 1);obtain ⟨K,F,a1,a2,a3,a4,a5,a6,a7⟩:=hq.ex;have hU:=undo_km b K F _ wr a1 a2 (by omega) (by rw [htl]; simp);rw [hud,htl,show ((M.goS p down i).trail ++ [lvlD p down i]).getLastD 0=lvlD p down i by simp] at hU;have HU:=Lib.hid hU;have HA:=Lib.hid (And.intro a3 (And.intro a4 (And.intro a5 (And.intro a6 (And.intro a7 (And.intro hq.blk hq.box))))))
      have hsw1:sw + (j - i)=sw + (j - (i + 1)) + 1:=by omega
      clear hq a1 a2 a3 a4 a5 a6 a7 hU htl hud htn hinj;go_wp2_with fail;refine HU.out.mono ?_;rintro e w1 ⟨rfl,hK⟩;obtain ⟨K',F',_,_,_,hu,_⟩:=hK.ex;have hb1:=(hu.block wb (heap_lt HA.out.2.2.2.2.2.1) HA.out.2.1).trans HA.out.2.2.2.2.2.1;have HK:=Lib.hid (And.intro hK hb1);have x5:w1.cell? ⟨wb,5,none⟩=some (.int .i64 ((sw + (j - (i + 1)):Nat))):=cell_at hb1 rfl;have x1:w1.cell? ⟨wb,1,none⟩=some (.int .i64 (posD p down (i + 1))):=cell_at hb1 rfl;have f5:=frozen_at 5 hb1;have f1:=frozen_at 1 hb1;obtain ⟨s1,hs1⟩ : ∃ s1,sw + (j - (i + 1))=s1:=⟨_,rfl⟩;rw [hs1] at x5 hsw1
      have hs900:s1≤1000000:=by omega
      have hw1:IntKind.i64.wrap ((s1:Int) + 1)=((s1:Int) + 1):=IntWalk.i64_in _ (by omega)
      have HN:Hid (SwS w0 wb bx b K0 F0 (M.goS p down i) (swC b (posD p down i) best place g (s1 + 1) last st) ((w1.setCell ⟨wb,5,none⟩ (.int .i64 ((s1:Int) + 1))).setCell ⟨wb,1,none⟩ (.int .i64 (posD p down i)))):=by
        refine SwS.next HA.out.1 HA.out.2.2.1 HA.out.2.2.2.1 HA.out.2.2.2.2.1 HA.out.2.2.2.2.2.1 HA.out.2.2.2.2.2.2 (SwQ.of HA.out.2.1 (heap_lt HA.out.2.2.2.2.2.1) HK.out.1 (((Upd.refl _ w1).setCell (p:=⟨wb,5,none⟩) (.inl (by simp)) _).setCell (p:=⟨wb,1,none⟩) (.inl (by simp)) _) ?_)
        rw [heap_set_eq (heap_set_eq HK.out.2 _),hs1]; rfl
      clear hK hu c0 c1 hb1
      cases down with
      | true =>
        simp only [distD,if_true] at hj
        have hl1:lvlD p true i=posD p true i:=rfl
        have hlt:((posD p true i:Nat):Int) < ((posD p true (i + 1):Nat):Int):=by simp [posD]; omega
        rw [hl1];generalize posD p true (i + 1)=P1 at *;generalize hP0:posD p true i=P0 at *;go_wp2_with fail
        go_roundg (i - k)
        case measure=>omega
        case rel=>exact ⟨i,rfl,by omega,by omega,by rw [hsw1,hP0]; exact HN.out⟩
      | false =>
        simp only [distD,Bool.false_eq_true,if_false] at hj
        have hl1:lvlD p false i=posD p false (i + 1):=by simp [lvlD,posD]; omega
        have hl2:((posD p false (i + 1):Nat):Int) + 1=(posD p false i:Nat):=by simp [posD]; omega
        have hp64:posD p false (i + 1)≤64:=by simp [posD]; omega
        have hnl:¬ ((posD p false (i + 1):Nat):Int) < ((posD p false (i + 1):Nat):Int):=by omega
        rw [hl1];generalize posD p false (i + 1)=P1 at *;generalize hP0:posD p false i=P0 at *
        have hw2:IntKind.i64.wrap ((P1:Int) + 1)=(P0:Int):=by rw [hl2]; exact IntWalk.i64_in _ (by omega)
        go_wp2_with fail
        go_roundg (i - k)
        case measure=>omega
        case rel=>exact ⟨i,rfl,by omega,by omega,by rw [hsw1,hP0]; exact HN.out⟩
end Go.Proofs.YtpfafhmkbcahhaaGreat
namespace Go.Proofs.YtpfafhmkbcahhaaGreat
open Go.RowKit Go.Maps Go.ChangeMaps Go.WideShapes
def growE (g:Int):Int:=if g < 100∨1000 < g then 1 else 0
set_option maxRecDepth 100000 in
theorem scheck_spec (b:Nat) (g:Int) (w:World) :
    Calls Tryz.prog 70 #[.pointer (some ⟨b,0,none⟩),.int .i64 g] w fun e w'=>e=.returned (.int .i64 (growE g))∧w'=w:=by
  obtain ⟨E,hE⟩ : ∃ E,growE g=E:=⟨_,rfl⟩;rw [hE];have HE:=Lib.hid hE;clear hE
  by_cases h1:g < 100
  · have HD:=Lib.hid h1
    have hd:decide (g < 100)=true:=decide_eq_true h1
    obtain rfl:E=1:=by rw [← HE.out]; unfold growE; rw [if_pos (.inl HD.out)]
    clear h1
    go_enter Tryz.func70,Tryz.ntmps70
    go_wp2_with fail;go_ret;exact ⟨rfl,rfl⟩
  · have HD:=Lib.hid h1
    have hd:decide (g < 100)=false:=decide_eq_false h1
    by_cases h2:1000 < g
    · obtain rfl:E=1:=by rw [← HE.out]; unfold growE; rw [if_pos (.inr h2)]
      clear h1
      go_enter Tryz.func70,Tryz.ntmps70
      go_wp2_with fail;go_ret;exact ⟨rfl,rfl⟩
    · obtain rfl:E=0:=by rw [← HE.out]; unfold growE; rw [if_neg (by omega)]
      clear h1
      go_enter Tryz.func70,Tryz.ntmps70
      go_wp2_with fail;go_ret;exact ⟨rfl,rfl⟩
set_option maxRecDepth 100000 in
theorem level_at (b v:Nat) (K:KV) (F:List Nat) (w:World) (h:KerAt w b K F) (hv:v < K.vars) :
    Calls Tryz.prog 71 #[.pointer (some ⟨b,0,none⟩),.int .i64 v] w fun e w'=>e=.returned (.tuple #[.int .i64 (K.lev v),.int .i64 0])∧w'=w:=by
  obtain ⟨T,q,hk,rfl⟩:=h;have hll:=hk.ok.ord.pm.ll;have hvs:=hk.ok.wf.vs;obtain ⟨g,c,hq,_,_⟩:=hk.mem.ls.form (by omega);have c6:w.cell? ⟨b,6,none⟩=some q.lv:=cell_at hk.mem.blk rfl
  have cl:w.cell? ⟨g,v,none⟩=some (.int .i64 (K.lev v)):=by
    have:=hk.mem.ls;rw [hq] at this;exact row_cell this (by simp [flatN,KV.lev,show v < K.level.length by omega])
  rw [hq] at c6;have HV:=Lib.hid (variable_spec b v K T q w hk.mem);rw [show K.isVar v=true by simp [KV.isVar,hv]] at HV
  have h0:¬ ((v:Int) < 0):=by omega
  have hi:(v:Int) < (K.level.length:Int):=by omega
  clear hk hq
  go_enter Tryz.func71,Tryz.ntmps71
  go_wp2_with fail;refine HV.out.mono ?_;rintro e w1 ⟨rfl,rfl⟩;go_wp2_with fail;go_ret2;exact ⟨rfl,rfl⟩
set_option maxRecDepth 100000 in
theorem level_no (b:Nat) (v:Int) (K:KV) (F:List Nat) (w:World) (h:KerAt w b K F) (hv:K.isVar v=false) :
    Calls Tryz.prog 71 #[.pointer (some ⟨b,0,none⟩),.int .i64 v] w fun e w'=>e=.returned (.tuple #[.int .i64 0,.int .i64 2])∧w'=w:=by
  obtain ⟨T,q,hk,rfl⟩:=h;have HV:=Lib.hid (variable_spec b v K T q w hk.mem);rw [hv] at HV;clear hk hv
  go_enter Tryz.func71,Tryz.ntmps71
  go_wp2_with fail;refine HV.out.mono ?_;rintro e w1 ⟨rfl,rfl⟩;go_wp2_with fail;go_ret2;exact ⟨rfl,rfl⟩
structure SwW (w0:World) (wb b:Nat) (K0:KV) (F0:List Nat) (M:MV) (C:Array Value) (w:World):Prop where
  ex:∃ (K:KV) (F:List Nat),KerAt w b K F∧KM K M∧Stay K0 K∧wb∉F∧Upd (wb :: F0) w0 w∧Sub (wb :: F0) w0 (wb :: F)
  blk:w.heap[wb]?=some (.cells C 132 (0,0))
theorem SwS.w {w0 w:World} {wb bx b:Nat} {K0:KV} {F0:List Nat} {M:MV} {C:Array Value} (h:SwS w0 wb bx b K0 F0 M C w):SwW w0 wb b K0 F0 M C w:=by
  obtain ⟨K,F,a1,a2,a3,a4,a5,a6,a7⟩:=h.ex;exact ⟨⟨K,F,a1,a2,a3,a4,a6,a7⟩,h.blk⟩
theorem SwW.keep {w0 w w':World} {wb b:Nat} {K0:KV} {F0:List Nat} {M:MV} {C:Array Value} (h:SwW w0 wb b K0 F0 M C w) (u:Upd [] w w'):SwW w0 wb b K0 F0 M C w':=by
  obtain ⟨K,F,a1,a2,a3,a4,a6,a7⟩:=h.ex;exact ⟨⟨K,F,a1.upd u (by simp),a2,a3,a4,a6.trans (u.mono (by simp)),a7⟩,(u.block _ (heap_lt h.blk) (by simp)).trans h.blk⟩
theorem SwW.toward {w0 w:World} {wb b:Nat} {K0:KV} {F0:List Nat} {M:MV} {at_ best place g sw last:Nat} {st:Value} (h:SwW w0 wb b K0 F0 M (swC b at_ best place g sw last st) w) (down:Bool) :
    Calls Tryz.prog 72 #[.pointer (some ⟨wb,0,none⟩),.bool down] w fun e w'=>e=.returned (.tuple #[])∧∃ bx,SwS w0 wb bx b K0 F0 M (swC b at_ best place g sw (if down then M.n - 1 else 0) (stepV down bx)) w':=by
  obtain ⟨K,F,a1,a2,a3,a4,a6,a7⟩:=h.ex;refine (toward_spec wb b K F down at_ best place g sw last st w h.blk a1).mono ?_;rintro e w' hQ;obtain ⟨bx,h1,h2,h3⟩:=hQ.ex;have hn:=a2.agr.same.n;refine ⟨hQ.en,bx,⟨⟨K,F,a1.upd hQ.up (fun k hk=>by simp; rintro rfl; exact a4 hk),a2,a3,a4,fun hm=>?_,a6.trans (hQ.up.mono (by simp)),a7⟩,by rw [hn]; exact h3,h2⟩⟩;have:=a1.lt _ hm;omega
theorem live_sw {w0 w:World} {wb b:Nat} {K0:KV} {F0:List Nat} {M:MV} {C:Array Value} (h:SwW w0 wb b K0 F0 M C w):∀ z,Upd [] w z→Calls Tryz.prog 39 #[.pointer (some ⟨b,0,none⟩)] z fun e w'=>e=.returned (.int .i64 M.live)∧w'=z:=fun z u=>by
  obtain ⟨K,F,a1,a2,_⟩:=h.ex;have:=live_at b K F z (a1.upd u (by simp));rw [a2.live a1.ok a1.uni] at this;exact this
end Go.Proofs.YtpfafhmkbcahhaaGreat
namespace Go.Proofs.YtpfafhmkbcahhaaGreat
open Go.RowKit Go.Maps Go.ChangeMaps Go.WideShapes
def MV.lvl (M:MV) (v:Nat):Nat:=M.order.idxOf v
theorem MV.lvl_at {M:MV} {v:Nat} (h:v∈M.order):M.lvl v < M.order.length∧M.order[M.lvl v]?=some v:=by
  have h1:M.order.idxOf v < M.order.length:=List.idxOf_lt_length_iff.2 h;exact ⟨h1,by unfold MV.lvl; rw [List.getElem?_eq_getElem h1,List.getElem_idxOf]⟩
theorem KM.lvl {K:KV} {M:MV} (h:KM K M) (hk:K.Ok) {v:Nat} (hv:v < M.n):K.lev v=M.lvl v∧M.lvl v < M.n∧M.order[M.lvl v]?=some v:=by
  have hn:=h.agr.same.n;have ho:=h.agr.same.od;have hl:=h.len hk;have hol:=hk.ord.pm.ol;obtain ⟨l1,l2⟩:=hk.ord.pm.lo v (by omega)
  have hm:v∈M.order:=by
    rw [ho,← l2,List.getD_eq_getElem?_getD,List.getElem?_eq_getElem (by omega)];exact List.getElem_mem _
  obtain ⟨h1,h2⟩:=MV.lvl_at hm;have h3:=hk.ord.pm.oo (M.lvl v) (by omega);rw [← ho,List.getD_eq_getElem?_getD,h2] at h3;exact ⟨h3.2,by omega,h2⟩
theorem posD_two {n p j k:Nat} {down:Bool} (hj:j≤distD n p down) (hk:k≤distD n p (!down)) (h0:k≠0):posD p (!down) k≠posD p down j:=by
  cases down with
  | true=>simp only [posD,distD,Bool.not_true,Bool.false_eq_true,if_true,if_false] at hj hk ⊢; omega
  | false=>simp only [posD,distD,Bool.not_false,Bool.false_eq_true,if_true,if_false] at hj hk ⊢; omega
theorem MV.runG {M:MV} {p g best j b k:Nat} {dn:Bool} (h:M.runD p dn g (distD M.n p dn) 0 best 0=(j,b,k)):j≤distD M.n p dn∧k≤j∧M.okD p dn j:=by
  have f:=M.runD_f p dn g (distD M.n p dn) 0 best 0;rw [h] at f;exact ⟨by have:=f.hi; omega,f.bj (Nat.le_refl _),f.ok (fun i hi=>absurd hi (by omega))⟩
theorem pick_pos (p k:Nat) (dn:Bool):(if k=0 then p else posD p dn k)=posD p dn k:=by
  split
  · rename_i h; subst h; cases dn <;> simp [posD]
  · rfl
structure OneF (M:MV) (p g:Nat) (dn:Bool) (j1 b1 k1 j2 b2 k2:Nat):Prop where
  h1:M.runD p dn g (distD M.n p dn) 0 M.live 0=(j1,b1,k1)
  h2:M.runD p (!dn) g (distD M.n p (!dn)) 0 b1 0=(j2,b2,k2)
  l1:j1≤distD M.n p dn
  l2:j2≤distD M.n p (!dn)
  m1:k1≤j1
  m2:k2≤j2
  o1:M.okD p dn j1
  o2:M.okD p (!dn) j2
theorem OneF.of {M:MV} {p g:Nat} {dn:Bool} {j1 b1 k1 j2 b2 k2:Nat} (h1:M.runD p dn g (distD M.n p dn) 0 M.live 0=(j1,b1,k1)) (h2:M.runD p (!dn) g (distD M.n p (!dn)) 0 b1 0=(j2,b2,k2)):OneF M p g dn j1 b1 k1 j2 b2 k2:=by
  have f1:=M.runD_f p dn g (distD M.n p dn) 0 M.live 0;have f2:=M.runD_f p (!dn) g (distD M.n p (!dn)) 0 b1 0;rw [h1] at f1;rw [h2] at f2;exact ⟨h1,h2,by have:=f1.hi; omega,by have:=f2.hi; omega,f1.bj (Nat.le_refl _),f2.bj (Nat.le_refl _),f1.ok (fun i hi=>absurd hi (by omega)),f2.ok (fun i hi=>absurd hi (by omega))⟩
def oneV (M:MV) (p:Nat) (dn:Bool) (j1 k1 j2 k2:Nat):OneV:=if k2≠0 then ⟨M.goS p (!dn) k2,2 * j1 + (2 * j2 - k2)⟩ else ⟨M.goS p dn k1,2 * j1 + 2 * j2 + k1⟩
theorem OneF.eq {M:MV} {p g:Nat} {dn:Bool} {j1 b1 k1 j2 b2 k2:Nat} (h:OneF M p g dn j1 b1 k1 j2 b2 k2) (hd:decide (M.n - 1 - p≤p)=dn):M.oneD p g=oneV M p dn j1 k1 j2 k2:=by
  unfold MV.oneD oneV
  simp only [hd,h.h1,h.h2]
structure OneQ (b:Nat) (K:KV) (F:List Nat) (M:MV) (O:OneV) (w:World) (e:Ending) (w':World):Prop where
  en:e=.returned (.tuple #[.agg #[.int .i64 M.live,.int .i64 O.M.live,.int .i64 O.sw,.bool false],.int .i64 0])
  mv:KMove b K F O.M w w'
theorem ret_rep {P:Program} {fn:Func} {p u:Tmp} {ty:TypeId} (h:fn.results=#[.cell p ty,.tmp u]) (tmps:Array Value) (Z:World) (rc:Nat) (cs:Array Value) (e:Value) (d:TypeDesc) (hp:tmps.getD p undef=.pointer (some ⟨rc,0,none⟩)) (hu:tmps.getD u undef=e)
    (hg:Z.heap[rc]?=some (.cells cs ty (0,0))) (hun:P.underlying ty=some d) (hd:(match d with | .struct _ | .array _ _=>true | _=>false)=true) (hi:(P.info? ty).map (·.size)=some cs.size) :
    (results fn tmps).run P Z=.ok (.tuple #[.agg cs,e]) Z:=by
  rw [results_cell_tmp h,hp,hu];have hld:=run_loadVar_row (P:=P) Z rc ty ty cs (0,0) d hg hun hd hi
  simp [asAddr,Result.andThen,hld]
theorem drew_heap (z:World) (k:Nat):z.drew.heap[k]?=z.heap[k]?:=rfl
def OneFin (w0:World) (wb b:Nat) (K:KV) (F:List Nat) (O:OneV) (g:Nat) (z:World):Prop :=
  ∃ (at_ best place last:Nat) (st:Value),SwW w0 wb b K F O.M (swC b at_ best place g O.sw last st) z
set_option maxRecDepth 100000 in
set_option maxHeartbeats 3200000 in
theorem one_core (b v g:Nat) (K:KV) (F:List Nat) (M:MV) (w:World) (h:KerAt w b K F) (hm:KM K M) (ht:M.trail.length≤900000) (hv:v < M.n) (hg1:100≤g) (hg2:g≤1000) :
    Calls Tryz.prog 17 #[.pointer (some ⟨b,0,none⟩),.int .i64 v,.int .i64 g] w fun e w'=>OneQ b K F M (M.oneD (M.lvl v) g) w e w':=by
  obtain ⟨l1,l2,l3⟩:=hm.lvl h.ok hv;have hn:=hm.agr.same.n
  have hn16:M.n≤16:=by have:=hm.n16; omega
  have HK:Hid (∀ z,Upd [] w z→KerAt z b K F):=fun z u=>h.upd u (by simp)
  have HC:Hid (growE g=0):=by show growE g=0; unfold growE; rw [if_neg (by omega)]
  have hlv:∀ z,Upd [] w z→Calls Tryz.prog 71 #[.pointer (some ⟨b,0,none⟩),.int .i64 v] z fun e w'=>e=.returned (.tuple #[.int .i64 (M.lvl v),.int .i64 0])∧w'=z:=fun z u=>by
    rw [← l1]; exact level_at b v K F z (HK.out z u) (by omega)
  have hli:∀ z,Upd [] w z→Calls Tryz.prog 39 #[.pointer (some ⟨b,0,none⟩)] z fun e w'=>e=.returned (.int .i64 M.live)∧w'=z:=fun z u=>by
    have:=live_at b K F z (HK.out z u);rw [hm.live h.ok h.uni] at this;exact this
  have hva:∀ z,Upd [] w z→Calls Tryz.prog 54 #[.pointer (some ⟨b,0,none⟩)] z fun e w'=>e=.returned (.int .i64 M.n)∧w'=z:=fun z u=>by
    rw [hn]; exact vars_at b K F z (HK.out z u)
  have HLE:=Lib.hid (hm.live_le h.ok h.uni);have HM:=Lib.hid (And.intro h hm);obtain ⟨p,hp⟩ : ∃ p,M.lvl v=p:=⟨_,rfl⟩;rw [hp] at hlv l2 l3 ⊢;have HL:=Lib.hid (And.intro hlv (And.intro hli hva));have HP3:=Lib.hid l3;have HN:Hid (∀ k,k∈F→k < w.heap.size):=h.lt;have HNK:=Lib.hid hn;clear hlv hli hva l1 l3 h hm hp hn
  go_enter Tryz.func17,Tryz.ntmps17
  go_wp2_with fail;refine (scheck_spec b g _).mono ?_;rintro e w1 ⟨rfl,rfl⟩;rw [HC.out];go_wp2_with fail;refine (HL.out.1 _ ((Upd.refl _ _).alloc _)).mono ?_;rintro e w1 ⟨rfl,rfl⟩;go_wp2_with fail;refine (HL.out.2.1 _ ((Upd.refl _ _).alloc _)).mono ?_;rintro e w1 ⟨rfl,rfl⟩;go_wp2_with fail;have hho:=HM.out.2.len HM.out.1.ok
  have h64:M.n≤64:=by omega
  have hp0:∀ d,posD p d 0=p:=fun d=>by cases d <;> simp [posD]
  have HS:Hid (SwW (((w.alloc (.cells #[.int .i64 0,.int .i64 0,.int .i64 0,.bool false] 36 (0,0))).alloc (.cells #[.int .i64 M.live,.int .i64 0,.int .i64 0,.bool false] 36 (0,0))).alloc (.cells #[.pointer (some ⟨b,0,none⟩),.int .i64 p,.int .i64 M.live,.int .i64 p,.int .i64 g,.int .i64 0,.int .i64 0,.nilFunc] 132 (0,0)))
      (w.heap.size + 1 + 1) b K F M (swC b p M.live p g 0 0 .nilFunc) (((w.alloc (.cells #[.int .i64 0,.int .i64 0,.int .i64 0,.bool false] 36 (0,0))).alloc (.cells #[.int .i64 M.live,.int .i64 0,.int .i64 0,.bool false] 36 (0,0))).alloc (.cells #[.pointer (some ⟨b,0,none⟩),.int .i64 p,.int .i64 M.live,.int .i64 p,.int .i64 g,.int .i64 0,.int .i64 0,.nilFunc] 132 (0,0))) ∧
      Upd [] w (((w.alloc (.cells #[.int .i64 0,.int .i64 0,.int .i64 0,.bool false] 36 (0,0))).alloc (.cells #[.int .i64 M.live,.int .i64 0,.int .i64 0,.bool false] 36 (0,0))).alloc (.cells #[.pointer (some ⟨b,0,none⟩),.int .i64 p,.int .i64 M.live,.int .i64 p,.int .i64 g,.int .i64 0,.int .i64 0,.nilFunc] 132 (0,0))) ∧
      (((w.alloc (.cells #[.int .i64 0,.int .i64 0,.int .i64 0,.bool false] 36 (0,0))).alloc (.cells #[.int .i64 M.live,.int .i64 0,.int .i64 0,.bool false] 36 (0,0))).alloc (.cells #[.pointer (some ⟨b,0,none⟩),.int .i64 p,.int .i64 M.live,.int .i64 p,.int .i64 g,.int .i64 0,.int .i64 0,.nilFunc] 132 (0,0))).heap[w.heap.size]?=some (.cells #[.int .i64 0,.int .i64 0,.int .i64 0,.bool false] 36 (0,0)) ∧
      (((w.alloc (.cells #[.int .i64 0,.int .i64 0,.int .i64 0,.bool false] 36 (0,0))).alloc (.cells #[.int .i64 M.live,.int .i64 0,.int .i64 0,.bool false] 36 (0,0))).alloc (.cells #[.pointer (some ⟨b,0,none⟩),.int .i64 p,.int .i64 M.live,.int .i64 p,.int .i64 g,.int .i64 0,.int .i64 0,.nilFunc] 132 (0,0))).heap[w.heap.size + 1]?=some (.cells #[.int .i64 M.live,.int .i64 0,.int .i64 0,.bool false] 36 (0,0))):=by
    have u:=(((Upd.refl [] w).alloc (.cells #[.int .i64 0,.int .i64 0,.int .i64 0,.bool false] 36 (0,0))).alloc (.cells #[.int .i64 M.live,.int .i64 0,.int .i64 0,.bool false] 36 (0,0))).alloc (.cells #[.pointer (some ⟨b,0,none⟩),.int .i64 p,.int .i64 M.live,.int .i64 p,.int .i64 g,.int .i64 0,.int .i64 0,.nilFunc] 132 (0,0));have s1:=World.size_alloc w (.cells #[.int .i64 0,.int .i64 0,.int .i64 0,.bool false] 36 (0,0));have s2:=World.size_alloc (w.alloc (.cells #[.int .i64 0,.int .i64 0,.int .i64 0,.bool false] 36 (0,0))) (.cells #[.int .i64 M.live,.int .i64 0,.int .i64 0,.bool false] 36 (0,0));refine ⟨⟨⟨K,F,HK.out _ u,HM.out.2,Stay.refl _,fun hm=>by have:=HN.out _ hm; omega,Upd.refl _ _,fun k hk=>.inl hk⟩,?_⟩,u,?_,?_⟩
    · have:=heap_alloc_new ((w.alloc (.cells #[.int .i64 0,.int .i64 0,.int .i64 0,.bool false] 36 (0,0))).alloc (.cells #[.int .i64 M.live,.int .i64 0,.int .i64 0,.bool false] 36 (0,0))) (.cells #[.pointer (some ⟨b,0,none⟩),.int .i64 p,.int .i64 M.live,.int .i64 p,.int .i64 g,.int .i64 0,.int .i64 0,.nilFunc] 132 (0,0))
      rw [s2,s1] at this; exact this
    · rw [heap_alloc_old _ _ (by omega),heap_alloc_old _ _ (by omega)]; exact heap_alloc_new _ _
    · rw [heap_alloc_old _ _ (by omega)]
      have:=heap_alloc_new (w.alloc (.cells #[.int .i64 0,.int .i64 0,.int .i64 0,.bool false] 36 (0,0))) (.cells #[.int .i64 M.live,.int .i64 0,.int .i64 0,.bool false] 36 (0,0))
      rw [s1] at this; exact this
  obtain ⟨W1,hW1⟩ : ∃ W1,(((w.alloc (.cells #[.int .i64 0,.int .i64 0,.int .i64 0,.bool false] 36 (0,0))).alloc (.cells #[.int .i64 M.live,.int .i64 0,.int .i64 0,.bool false] 36 (0,0))).alloc (.cells #[.pointer (some ⟨b,0,none⟩),.int .i64 p,.int .i64 M.live,.int .i64 p,.int .i64 g,.int .i64 0,.int .i64 0,.nilFunc] 132 (0,0)))=W1:=⟨_,rfl⟩;rw [hW1] at HS ⊢;clear hW1;refine (HL.out.2.2 _ HS.out.2.1).mono ?_;rintro e w1 ⟨rfl,rfl⟩;generalize hwb:w.heap.size + 1 + 1=wb at *;generalize hrb:w.heap.size + 1=rb at *;generalize hrc:w.heap.size=rc at *;obtain ⟨dn,hdn⟩ : ∃ dn,decide (M.n - 1 - p≤p)=dn:=⟨_,rfl⟩
  have hd3:decide ((M.n:Int) - 1 - (p:Int)≤(p:Int))=dn:=by rw [← hdn]; exact decide_eq_decide.2 (by omega)
  have HD:=Lib.hid hdn;have HX:=Lib.hid (And.intro hwb (And.intro hrb hrc));clear hdn hwb hrb hrc;go_wp2_with fail;refine (SwW.toward HS.out.1 dn).mono ?_;rintro e w2 ⟨rfl,bx,hs⟩;have HS2:=Lib.hid hs;clear hs hd3;go_wp2_with fail;refine (run_spec w1 wb bx b K F M p g dn M.live p 0 w2 HS2.out l2 h64 ht (by omega) HLE.out hg2).mono ?_;rintro e w3 hq;obtain rfl:=hq.en;obtain ⟨j1,b1,k1,h1,hb1,hs⟩:=hq.ex;obtain ⟨l1,m1,o1⟩:=MV.runG h1;rw [pick_pos] at hs
  have hdl:∀ d,distD M.n p d≤64:=fun d=>by unfold distD; split <;> omega
  have hdl1:=hdl dn;have hdl2:=hdl (!dn);have HU:=Lib.hid (sundo_spec w1 wb bx b K F M p j1 0 dn b1 (posD p dn k1) g (0 + j1) _ _ w3 hs hho o1 l1 (Nat.zero_le _) l2 h64 ht (by omega));rw [hp0] at HU;have HH1:=Lib.hid (And.intro h1 (And.intro o1 (And.intro l1 m1)));clear hq hs HS2 h1 o1 l1 m1 hdl;go_wp2_with fail;refine HU.out.mono ?_;rintro e w4 ⟨rfl,hs⟩;have hs:SwS w1 wb bx b K F M (swC b p b1 (posD p dn k1) g (0 + j1 + (j1 - 0)) (if dn then M.n - 1 else 0) (stepV dn bx)) w4:=hs;rw [show 0 + j1 + (j1 - 0)=2 * j1 by omega] at hs;have c3:w4.cell? ⟨wb,3,none⟩=some (.int .i64 (posD p dn k1)):=cell_at hs.blk rfl;have HS4:=Lib.hid hs;clear hs HU;go_wp2_with fail;refine (SwW.toward HS4.out.w (!dn)).mono ?_;rintro e w5 ⟨rfl,bx2,hs⟩;have HS5:=Lib.hid hs;clear hs c3 HS4;go_wp2_with fail;refine (run_spec w1 wb bx2 b K F M p g (!dn) b1 (posD p dn k1) (2 * j1) w5 HS5.out l2 h64 ht (by have:=HH1.out.2.2.1; omega) hb1 hg2).mono ?_;rintro e w6 hq;obtain rfl:=hq.en;obtain ⟨j2,b2,k2,h2,hb2,hs⟩:=hq.ex;obtain ⟨l3,m2,o2⟩:=MV.runG h2;have HO:Hid (M.oneD p g=oneV M p dn j1 k1 j2 k2):=(OneF.of HH1.out.1 h2).eq HD.out;have HS6:=Lib.hid hs;have HH2:=Lib.hid (And.intro o2 (And.intro l3 m2));obtain ⟨pl,hpl⟩ : ∃ pl,(if k2=0 then posD p dn k1 else posD p (!dn) k2)=pl:=⟨_,rfl⟩
  have c3:w6.cell? ⟨wb,3,none⟩=some (.int .i64 pl):=by rw [← hpl]; exact cell_at hs.blk rfl
  have hpe:((pl:Int) == (posD p dn k1:Nat))=decide (k2=0):=by
    rw [← hpl]
    by_cases hk:k2=0
    · rw [if_pos hk,decide_eq_true hk]; simp
    · rw [if_neg hk,decide_eq_false hk]
      have:=posD_two (n:=M.n) (p:=p) (j:=k1) (k:=k2) (down:=dn) (by have:=HH1.out.2.2; omega) (by omega) hk
      simpa using fun e=>this (by omega)
  have HPL:=Lib.hid hpl;obtain ⟨fi,hfi⟩ : ∃ fi,posD p dn k1=fi:=⟨_,rfl⟩;rw [hfi] at hpe ⊢;have HFI:=Lib.hid hfi;clear hq hs o2 l3 m2 h2 HS5 hpl hfi
  have hj164:j1≤64:=by have:=HH1.out.2.2.1; omega
  have hk164:k1≤64:=by have:=HH1.out.2.2.2; omega
  have hj264:j2≤64:=by have:=HH2.out.2.1; omega
  obtain ⟨q,hq1⟩ : ∃ q,((pl:Int) != (fi:Int))=q:=⟨_,rfl⟩
  have HQE:Hid (q=!decide (k2=0)):=by show q=_; rw [← hq1,bne,hpe]
  go_upto_if 73 with fail;clear hq1
  go_cut [] from 74 to 102 (fun wx=>OneFin w1 wb b K F (M.oneD p g) g wx)
  case first =>
    by_cases hk:k2=0
    · obtain rfl:q=false:=by rw [HQE.out,decide_eq_true hk]; rfl
      have hpp:pl=fi:=by rw [← HPL.out,if_pos hk,HFI.out]
      subst hpp;have HZ:=Lib.hid hk;have HU:=Lib.hid (sundo_spec w1 wb bx2 b K F M p j2 0 (!dn) b2 _ g _ _ _ w6 HS6.out hho HH2.out.1 HH2.out.2.1 (Nat.zero_le _) l2 h64 ht (by have:=HH1.out.2.2.1; have:=HH2.out.2.1; omega));rw [hp0] at HU;clear c3 hk hpe;go_wp2_with fail;refine HU.out.mono ?_;rintro e w7 ⟨rfl,hs⟩;have hs:SwS w1 wb bx2 b K F M (swC b p b2 (if k2=0 then posD p dn k1 else posD p (!dn) k2) g (2 * j1 + j2 + (j2 - 0)) (if !dn then M.n - 1 else 0) (stepV (!dn) bx2)) w7:=hs;rw [HPL.out,show 2 * j1 + j2 + (j2 - 0)=2 * j1 + 2 * j2 by omega] at hs;have HS7:=Lib.hid hs;clear hs HU;go_wp2_with fail;refine (SwW.toward HS7.out.w dn).mono ?_;rintro e w8 ⟨rfl,bx3,hs⟩;have HS8:=Lib.hid hs;clear hs HS7;go_wp2_with fail
      go_loopg [] k1 (fun gg wr=>∃ i:Nat,k1 - i=gg∧i≤k1∧SwS w1 wb bx3 b K F (M.goS p dn i) (swC b (posD p dn i) b2 pl g (2 * j1 + 2 * j2 + i) (if dn then M.n - 1 else 0) (stepV dn bx3)) wr)
      case atStart=>exact ⟨0,by omega,by omega,by rw [hp0]; exact HS8.out⟩
      case round =>
        obtain ⟨i,rfl,hik,hq⟩:=hrel;have c0:wr.cell? ⟨wb,0,none⟩=some (.pointer (some ⟨b,0,none⟩)):=cell_at hq.blk rfl;have c1:wr.cell? ⟨wb,1,none⟩=some (.int .i64 (posD p dn i)):=cell_at hq.blk rfl;have c3:wr.cell? ⟨wb,3,none⟩=some (.int .i64 pl):=cell_at hq.blk rfl;have c7:wr.cell? ⟨wb,7,none⟩=some (stepV dn bx3):=cell_at hq.blk rfl;have hinj:=posD_inj (n:=M.n) (p:=p) (down:=dn) (j:=i) (k:=k1) (by have:=HH1.out.2.2; omega) (by have:=HH1.out.2.2; omega);rw [HFI.out] at hinj
        by_cases hd:i=k1
        · subst hd
          rw [hinj.2 rfl] at c1
          have HF:Hid (∀ z,Upd [] wr z→OneFin w1 wb b K F (M.oneD p g) g z):=fun z u=>by
            rw [HO.out];unfold oneV;rw [if_neg (by have:=HZ.out; omega)];exact ⟨_,_,_,_,_,(hq.keep u).w⟩
          clear hq hinj;go_wp2_with fail
          go_quiet (fail)
          go_wp2_with fail;go_meet;exact HF.out _ ((Upd.refl _ _).drewN _)
        · have hil:i < k1:=by omega
          have hpe2:¬ ((posD p dn i:Nat):Int)=(pl:Int):=fun e=>hd (hinj.1 (by omega))
          have hpe3:(((posD p dn i:Nat):Int) == (pl:Int))=false:=by simpa using hpe2
          have hpe4:(((posD p dn i:Nat):Int) != (pl:Int))=true:=by rw [bne,hpe3]; rfl
          have hex:=HH1.out.2.1 i (by have:=HH1.out.2.2; omega);have htr:=(M.goS_trail p dn i);obtain ⟨fl,hfl⟩ : ∃ fl,stepF dn=fl:=⟨_,rfl⟩
          have hst:stepV dn bx3=.func (.func fl) #[] #[.pointer (some ⟨bx3,0,none⟩)]:=by rw [← hfl]; rfl
          have hen:=enters_step dn;rw [hfl] at hen
          have HST:Hid (∀ z,Upd [] wr z→Calls Tryz.prog fl #[.pointer (some ⟨bx3,0,none⟩)] z fun e w'=>e=.returned (.int .i64 0) ∧
              SwS w1 wb bx3 b K F (M.goS p dn (i + 1)) (swC b (posD p dn (i + 1)) b2 pl g (2 * j1 + 2 * j2 + (i + 1)) (if dn then M.n - 1 else 0) (stepV dn bx3)) w'):=fun z u=>by
            have:=step_any wb bx3 b K F M p dn i b2 pl g (2 * j1 + 2 * j2 + i) _ _ w1 z (hq.keep u) l2 h64 (by have:=HH1.out.2.2; omega) (by omega) (by omega);rw [hfl,hex] at this;exact this
          rw [hst] at c7;have HFL:=Lib.hid hfl;clear hq hst hfl hex htr hinj;go_upto_region 20 with fail
          go_cut [102] from 86 to 102 (fun s102 wx=>s102=.bool true∧SwS w1 wb bx3 b K F (M.goS p dn (i + 1)) (swC b (posD p dn (i + 1)) b2 pl g (2 * j1 + 2 * j2 + (i + 1)) (if dn then M.n - 1 else 0) (stepV dn bx3)) wx)
          case first =>
            cases dn with
            | true =>
              obtain rfl:fl=161:=HFL.out.symm;clear hen
              go_region_with (go_at_call 161; refine (HST.out _ (by first | exact (Upd.refl _ _).drew | exact (Upd.refl _ _))).mono ?_; rintro e w10 ⟨rfl,q⟩; have HQ:=Lib.hid q; clear q)
              all_goals
                go_wp2_with fail;go_meet;exact ⟨rfl,HQ.out⟩
            | false =>
              obtain rfl:fl=163:=HFL.out.symm;clear hen
              go_region_with (go_at_call 163; refine (HST.out _ (by first | exact (Upd.refl _ _).drew | exact (Upd.refl _ _))).mono ?_; rintro e w10 ⟨rfl,q⟩; have HQ:=Lib.hid q; clear q)
              all_goals
                go_wp2_with fail;go_meet;exact ⟨rfl,HQ.out⟩
          case rest =>
            obtain ⟨rfl,hq⟩:=hcut;have HQ:=Lib.hid hq;clear hq c0 c1 c3 c7 HST hen;go_wp2_with fail
            go_roundg (k1 - (i + 1))
            case measure=>omega
            case rel=>exact ⟨i + 1,rfl,by omega,HQ.out⟩
    · obtain rfl:q=true:=by rw [HQE.out,decide_eq_false hk]; rfl
      have HZ:=Lib.hid hk;have HU:=Lib.hid (sundo_spec w1 wb bx2 b K F M p j2 k2 (!dn) b2 _ g _ _ _ w6 HS6.out hho HH2.out.1 HH2.out.2.1 HH2.out.2.2 l2 h64 ht (by have:=HH1.out.2.2.1; have:=HH2.out.2.1; omega))
      have hpk:posD p (!dn) k2=pl:=by rw [← HPL.out,if_neg hk]
      rw [hpk] at HU;clear hk hpk hpe;go_wp2_with fail;refine HU.out.mono ?_;rintro e w7 ⟨rfl,hs⟩
      have HF:Hid (OneFin w1 wb b K F (M.oneD p g) g w7):=by
        rw [HO.out];unfold oneV;rw [if_pos HZ.out]
        have e1:2 * j1 + (2 * j2 - k2)=2 * j1 + j2 + (j2 - k2):=by have:=HH2.out.2.2; omega
        rw [e1];exact ⟨_,_,_,_,_,hs.w⟩
      clear hs HU;go_wp2_with fail;go_meet;exact HF.out
  case rest =>
    obtain ⟨at_,best,place,last,st,hs⟩:=hcut;obtain ⟨K9,F9,a1,a2,a3,a4,a6,a7⟩:=hs.ex;obtain ⟨x1,x2,x3⟩:=HX.out;have hFw:∀ k,k∈F→k < rc:=HN.out;have hb0:=(a6.block rb (heap_lt HS.out.2.2.2) (by intro hm; rcases List.mem_cons.1 hm with h | h; (· omega); (· have:=hFw _ h; omega))).trans HS.out.2.2.2;have hc0:=(a6.block rc (heap_lt HS.out.2.2.1) (by intro hm; rcases List.mem_cons.1 hm with h | h; (· omega); (· have:=hFw _ h; omega))).trans HS.out.2.2.1
    have HMV:Hid (∀ z,Upd [rb,rc] wc z→KMove b K F (M.oneD p g).M w z):=fun z u=>by
      have hlt9:=a1.lt;have hrl:=heap_lt HS.out.2.2.2
      have hn9:∀ k,k∈F9→k∉[rb,rc]:=fun k hk hm=>by
        have:=a7 k (by simp [hk])
        simp at hm
        rcases this with h | h
        · rcases List.mem_cons.1 h with h | h
          · subst h; exact a4 hk
          · have:=hFw _ h; omega
        · omega
      have hlw:wb < w1.heap.size:=heap_lt HS.out.1.blk;refine ⟨K9,F9,a1.upd u (fun k hk=>hn9 k hk),a2,a3,?_,?_⟩
      · refine (Upd.then (S:=F) ((HS.out.2.1.mono (by simp)).then a6 (fun k hk=>?_)) u (fun k hk=>?_))
        · rcases List.mem_cons.1 hk with h | h
          · right; omega
          · exact .inl h
        · right
          simp at hk
          omega
      · intro k hk
        rcases a7 k (by simp [hk]) with h | h
        · rcases List.mem_cons.1 h with h | h
          · subst h; exact absurd hk a4
          · exact .inl h
        · right
          have:=HS.out.2.1.size;omega
    have HLV:=Lib.hid (live_sw hs);have c5:wc.cell? ⟨wb,5,none⟩=some (.int .i64 (M.oneD p g).sw):=cell_at hs.blk rfl;have b0:=cell_at (j:=0) hb0 rfl;have b1:=cell_at (j:=1) hb0 rfl;have b2:=cell_at (j:=2) hb0 rfl;have b3:=cell_at (j:=3) hb0 rfl;have d0:=cell_at (j:=0) hc0 rfl;have d1:=cell_at (j:=1) hc0 rfl;have d2:=cell_at (j:=2) hc0 rfl;have d3:=cell_at (j:=3) hc0 rfl;have f1:=frozen_at 1 hb0;have f2:=frozen_at 2 hb0;have g0:=frozen_at 0 hc0;have g1:=frozen_at 1 hc0;have g2:=frozen_at 2 hc0;have g3:=frozen_at 3 hc0
    have hbc:rb≠rc:=by omega
    have HBC:Hid (rc≠rb):=by show rc≠rb; omega
    have HRI:Hid ((Tryz.prog.info? 36).map (·.size)=some 4):=by show _=_; kernel_rfl
    have HRC:Hid (∀ z:World,z.heap[rc]?=some (.cells #[.int .i64 0,.int .i64 0,.int .i64 0,.bool false] 36 (0,0))→((((z.setCell ⟨rc,0,none⟩ (.int .i64 M.live)).setCell ⟨rc,1,none⟩ (.int .i64 (M.oneD p g).M.live)).setCell ⟨rc,2,none⟩ (.int .i64 (M.oneD p g).sw)).setCell ⟨rc,3,none⟩ (.bool false)).heap[rc]?=some (.cells #[.int .i64 M.live,.int .i64 (M.oneD p g).M.live,.int .i64 (M.oneD p g).sw,.bool false] 36 (0,0))):=fun z hz=>by
      rw [heap_set_eq (heap_set_eq (heap_set_eq (heap_set_eq hz _) _) _) _]; rfl
    clear hs a1 a2 a3 a4 a6 a7 x1 x2 x3;generalize hSW:(M.oneD p g).sw=SW at *;generalize hLV:(M.oneD p g).M.live=LV at *;have HEN:=Lib.hid (And.intro hSW hLV);clear hSW hLV;go_upto_region 21 with fail
    go_region_with (go_at_call 39; refine (HLV.out _ (by first | exact (Upd.refl _ _).drew | exact (Upd.refl _ _))).mono ?_; rintro e w10 ⟨rfl,rfl⟩)
    all_goals
      go_wp2_with fail;refine bodyPost_ret (ret_rep rfl _ _ rc #[.int .i64 M.live,.int .i64 LV,.int .i64 SW,.bool false] (.int .i64 0) _ rfl rfl ?_ Tryz.underlying36 rfl HRI.out) rfl ⟨by rw [HEN.out.1,HEN.out.2],HMV.out _ ?_⟩
      · rw [drew_heap]
        refine HRC.out _ ?_;rw [heap_set_ne HBC.out,heap_set_ne HBC.out];exact hc0
      · exact (((((((Upd.refl _ wc).setCell (.inl (by simp)) _).setCell (.inl (by simp)) _).setCell (.inl (by simp)) _).setCell (.inl (by simp)) _).setCell (.inl (by simp)) _).setCell (.inl (by simp)) _).drew
end Go.Proofs.YtpfafhmkbcahhaaGreat
