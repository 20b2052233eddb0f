import Derived.Test.YtpfafhmkbcahhaaGreatPT47
import Derived.Test.YtpfafhmkbcahhaaGreatPT42
set_option maxRecDepth 100000
set_option maxHeartbeats 6400000
namespace Go.Proofs.YtpfafhmkbcahhaaGreat
open Go.RowKit Go.Maps Go.ChangeMaps Go.WideShapes
def MV.undoN:Nat->MV->MV
 | 0,M=>M
 | j+1,M=>MV.undoN j M.undo
theorem MV.undoN_add:∀ (i j:Nat) (M:MV),MV.undoN (i+j) M=MV.undoN i (MV.undoN j M)
 | _,0,_=>rfl
 | i,j+1,M=>MV.undoN_add i j M.undo
theorem MV.undoN_succ (j:Nat) (M:MV):MV.undoN (j+1) M=(MV.undoN j M).undo:=by
 rw [Nat.add_comm,MV.undoN_add];rfl
theorem MV.undo_len (M:MV):M.undo.trail.length=M.trail.length-1:=by
 show M.trail.dropLast.length=_
 simp
theorem MV.undoN_len:∀ (j:Nat) (M:MV),(MV.undoN j M).trail.length=M.trail.length-j
 | 0,_=>rfl
 | j+1,M=>by
  have:=MV.undoN_len j M.undo;rw [MV.undo_len] at this
  show (MV.undoN j M.undo).trail.length=_
  omega
def Und (M M':MV):Prop:=∃ j,M'.trail.length=M.trail.length+j/\M'.undoN j=M
theorem Und.refl (M:MV):Und M M:=⟨0,rfl,rfl⟩
theorem Und.trans {A B C:MV} (h:Und A B) (k:Und B C):Und A C:=by
 obtain ⟨i,h1,h2⟩:=h;obtain ⟨j,k1,k2⟩:=k;exact ⟨i+j,by omega,by rw [MV.undoN_add,k2,h2]⟩
theorem Und.exch {M:MV} (ho:M.order.length=M.n) (l:Int):Und M (M.exch l):=by
 by_cases he:M.exchE l=0
 ·refine ⟨1,?_,MV.undo_exch he ho⟩
  obtain ⟨_,_,_,e⟩:=MV.exch_yes he
  rw [e];simp
 ·unfold MV.exch;rw [if_neg he];exact Und.refl M
theorem Und.goS {M:MV} (ho:M.order.length=M.n) (p:Nat) (d:Bool):∀ j,Und M (M.goS p d j)
 | 0=>Und.refl M
 | j+1=>(Und.goS ho p d j).trans (Und.exch (MV.goS_len ho p d j) _)
theorem Und.one {M:MV} (ho:M.order.length=M.n) (v g:Int):Und M (M.one v g):=by
 unfold MV.one;split
 ·unfold MV.oneD
  simp only
  split
  ·exact Und.goS ho _ _ _
  ·exact Und.goS ho _ _ _
 ·exact Und.refl M
theorem Und.foldl (g:Int):∀ (L:List Nat) (A:AllV),A.M.order.length=A.M.n->Und A.M (L.foldl (allStep g) A).M
 | [],A,_=>Und.refl A.M
 | v::L,A,h=>by
  obtain ⟨h1,_,_,h4⟩:=A.M.one_same v g;exact (Und.one h v g).trans (Und.foldl g L (allStep g A v) ((h4 h).trans h1.symm))
theorem Und.all {M:MV} (ho:M.order.length=M.n) (g:Int) (L:List Nat):Und M (M.allF g L).M:=Und.foldl g L ⟨M,0⟩ ho
theorem KMove.then {b:Nat} {K K1:KV} {F F1:List Nat} {M2:MV} {w w1 w2:World} (a3:Stay K K1) (a4:Upd F w w1) (a5:Sub F w F1) (k:KMove b K1 F1 M2 w1 w2):KMove b K F M2 w w2:=by
 obtain ⟨K2,F2,b1,b2,b3,b4,b5⟩:=k.ex;refine ⟨K2,F2,b1,b2,a3.trans b3,a4.then b4 a5,fun x hx=>?_⟩
 rcases b5 x hx with h | h
 ·exact a5 x h
 ·right;have:=a4.size;omega
theorem KMove.trans {b:Nat} {K:KV} {F:List Nat} {M1 M2:MV} {w w1 w2:World} (h:KMove b K F M1 w w1) (k:∀ K1 F1,KerAt w1 b K1 F1->KM K1 M1->KMove b K1 F1 M2 w1 w2):KMove b K F M2 w w2:=by
 obtain ⟨K1,F1,a1,a2,a3,a4,a5⟩:=h.ex
 exact KMove.then a3 a4 a5 (k K1 F1 a1 a2)
theorem KMove.keep {b:Nat} {K:KV} {F:List Nat} {M1:MV} {w w1 w2:World} (h:KMove b K F M1 w w1) (u:Upd [] w1 w2):KMove b K F M1 w w2 :=
 h.trans fun _ _ a m=>KMove.same a m u
theorem growth_of (g:Int):∃ m:Nat,(IntKind.u64.wrap g).tmod 901=m/\m<901:=by
 have h0:=(u64_wrap_nonneg g).1;rw [Int.tmod_eq_emod_of_nonneg h0];exact ⟨((IntKind.u64.wrap g) % 901).toNat,by omega,by omega⟩
theorem siftBack_walk (n room g:Int) (la wa:Option Addr) (ln lc wn wk:Nat) (Ls Ws:List Int) (w:World) (hL:RowOf w .i64 la ln Ls) (hW:RowOf w .u64 wa wn Ws) (hU:∀ x,x∈Ws->U64 x) :
  Calls Tryz.prog 9 #[.agg #[.int .i64 n,.int .i64 room,.slice la ln lc,.slice wa wn wk],.int .i64 g] w fun e w'=>e=.returned (.bool true)/\Upd [] w w':=by
 have HLD:Hid (∀ x:World,Upd [] w x->Calls Tryz.prog 15 #[.agg #[.int .i64 n,.int .i64 room,.slice la ln lc,.slice wa wn wk]] x fun e w'=>LaidX n room ln Ws x e w'):=fun x u =>
  laid_specX n room la wa ln lc wn wk Ls Ws x (hL.keep0 u) (hW.keep0 u) hU
 have HU0:=Lib.hid ((Upd.refl [] w).alloc (.cells #[.int .i64 n,.int .i64 room,.slice la ln lc,.slice wa wn wk] 25 (0,0)));clear hL hW hU
 go_enter Tryz.func9,Tryz.ntmps9
 go_wp2_with fail;refine (HLD.out _ HU0.out).mono ?_;rintro e w1 hE;obtain ⟨b,m,_,_,K,F,M,p,refs,tabs,rfl,hm,hlg,hal,hlo,hu,hpl,hhd,hrl,hhl,hkt,hmt,hvr,hrf,hM⟩:=hE.ex;obtain ⟨xa,xc,rfl,_⟩:=row_nil_len hm.rr;obtain ⟨ya,yc,rfl,_⟩:=hm.tt.form;have e0:worldV b m (.slice xa refs.length xc) (.slice ya tabs.length yc)=.agg #[.pointer (some ⟨b,0,none⟩),.pointer (some ⟨m,0,none⟩),.slice xa refs.length xc,.slice ya tabs.length yc]:=rfl;rw [e0];have hu2:Upd [] w1 (w1.alloc (.cells #[.pointer (some ⟨b,0,none⟩),.pointer (some ⟨m,0,none⟩),.slice xa refs.length xc,.slice ya tabs.length yc] 31 (0,0))):=(Upd.refl _ _).alloc _;have hwz:=HU0.out.size;have hsz1:=hu.size
 have HI:Hid (SftI w w.heap.size w1.heap.size b m (.slice xa refs.length xc) (.slice ya tabs.length yc) refs tabs 0 (w1.alloc (.cells #[.pointer (some ⟨b,0,none⟩),.pointer (some ⟨m,0,none⟩),.slice xa refs.length xc,.slice ya tabs.length yc] 31 (0,0)))):=by
  refine ⟨⟨K,F,M,p,⟨heap_alloc_new _ _,hm.keep0 hu2,⟨fun hk=>by have:=hm.ker.lt _ hk;omega,fun hk=>by have:=hm.mod.lt _ hk;omega⟩,fun k hk=>?_,by rw [World.size_alloc];omega⟩,KM.of hlg hkt hmt,hlg,hal,hrf,by rw [hmt];simp⟩,(HU0.out.trans hu).trans hu2⟩
  rcases hk with h | h | h | h | h
  ·have:=hlo k (.inl h);omega
  ·have:=hlo k (.inr (.inl h));omega
  ·omega
  ·have:=hlo k (.inr (.inr (.inl h)));omega
  ·have:=hlo k (.inr (.inr (.inr h)));omega
 generalize hwA:w1.alloc (.cells #[.pointer (some ⟨b,0,none⟩),.pointer (some ⟨m,0,none⟩),.slice xa refs.length xc,.slice ya tabs.length yc] 31 (0,0))=wA at *;have HWA:=Lib.hid hwA;clear hE hm hlg hal hlo hu hpl hhd hrl hhl hkt hmt hvr hrf hM e0 hu2 hwz hsz1 hwA HLD HU0;go_upto_region 2 with fail;rw [HWA.out];generalize w1.heap.size=a at *;go_wp2_with fail;refine (awake17_spec _).mono ?_;rintro e wB ⟨rfl,hu⟩;have HUB:=Lib.hid hu;clear hu;have hup:=HI.out.up;obtain ⟨K,F,M,p,q1A,hKM,hLG,hAL,hRF,hTL⟩:=HI.out.ex;have hM0:M.trail=[]:=List.length_eq_zero_iff.1 (by omega);have hn6:=hKM.fit.n6;have hgood:=hKM.good q1A.mem.ker.ok
 have HC:Hid (∀ z,Upd [] wB z->z.cell? ⟨a,0,none⟩=some (.pointer (some ⟨b,0,none⟩))/\z.cell? ⟨a,1,none⟩=some (.pointer (some ⟨m,0,none⟩))/\z.cell? ⟨a,2,none⟩=some (.slice xa refs.length xc)/\z.cell? ⟨a,3,none⟩=some (.slice ya tabs.length yc)):=fun z u=>(q1A.keep0 (HUB.out.trans u)).cells
 have HLI:Hid (∀ z,Upd [] wB z->LIn z w.heap.size a b m (.slice xa refs.length xc) (.slice ya tabs.length yc) K F M p refs tabs):=fun z u=>q1A.keep0 (HUB.out.trans u)
 have HUP:Hid (∀ z,Upd [] wB z->Upd [] w z):=fun z u=>(hup.trans HUB.out).trans u
 have HX:=Lib.hid (And.intro hKM (And.intro hLG (And.intro hAL (And.intro hRF (And.intro hM0 hgood)))))
 have HOR:Hid (∀ z,Upd [] wB z->Calls Tryz.prog 38 #[.pointer (some ⟨b,0,none⟩)] z fun e w'=>∃ (g cap:Nat),e=.returned (.slice (some ⟨g,0,none⟩) M.order.length cap)/\w'.ownsRow z.heap.size 3 1 (.slice (some ⟨g,0,none⟩) M.order.length cap) M.order.length (flatN M.order)/\Upd [] z w'):=fun z u=>by
  rw [hKM.agr.same.od];exact order_at_spec b K F z (HLI.out z u).mem.ker
 have HLV:Hid (∀ z,Upd [] wB z->Calls Tryz.prog 39 #[.pointer (some ⟨b,0,none⟩)] z fun e w'=>e=.returned (.int .i64 M.live)/\w'=z):=fun z u=>by
  have h:=(HLI.out z u).mem.ker;have:=live_at b K F z h;rw [hKM.live h.ok h.uni] at this;exact this
 obtain ⟨z0,z1,z2,z3⟩:=HC.out wB (Upd.refl _ _);have HOL:=Lib.hid hgood.len;clear hup q1A hKM hLG hAL hRF hTL HI HUB hM0 hgood;go_upto_region 4 with fail;obtain ⟨m9,hm9,hm901⟩:=growth_of g;have HG9:=Lib.hid hm9
 have hw9:wrap64 ((IntKind.u64.wrap g).tmod 901)=m9:=by rw [hm9];unfold wrap64;omega
 have hw9b:wrap64 (100+(m9:Int))=100+(m9:Int):=by unfold wrap64;omega
 have hw9c:IntKind.i64.wrap ((IntKind.u64.wrap g).tmod 901)=m9:=by rw [hm9];exact IntWalk.i64_in _ (by omega)
 have hw9d:IntKind.i64.wrap (100+(m9:Int))=100+(m9:Int):=IntWalk.i64_in _ (by omega)
 go_cut [1] from 24 to 28 (fun s1 wx=>s1=.int .i64 (100+m9:Nat)/\wx=wB)
 case first =>
  go_wp2_with fail;go_meet;exact ⟨by rw [Int.natCast_add];rfl,rfl⟩
 case rest =>
  obtain ⟨rfl,rfl⟩:=hcut;generalize hwq:wc=wq at *;clear hw9 hw9b hw9c hw9d hwq hm9;go_upto_region 5 with fail
  go_cut [7,8] from 29 to 34 (fun s7 s8 wx=>(∃ (og cap:Nat),s7=.slice (some ⟨og,0,none⟩) M.order.length cap/\wx.ownsRow wq.heap.size 3 1 (.slice (some ⟨og,0,none⟩) M.order.length cap) M.order.length (flatN M.order))/\s8=.int .i64 M.live/\Upd [] wq wx)
  case first =>
   go_region_held3 (fun w'=>w'.cell? ⟨a,0,none⟩=some (.pointer (some ⟨b,0,none⟩))) (first | exact z0 | exact (HC.out _ HV1.out).1 | exact (HC.out _ (Upd.refl _ _).drew).1) (first
    | (go_at_call 38;refine (HOR.out _ (by first | exact Upd.refl _ _ | exact (Upd.refl _ _).drew)).mono ?_;rintro e w2 ⟨og,cap,rfl,r1,u1⟩;have HV1:=Lib.hid (show Upd [] wq w2 by first | exact u1 | exact u1.of_drew);have H1:=Lib.hid r1;clear r1 u1)
    | (go_at_call 39;refine (HLV.out _ (by first | exact HV1.out | exact Upd.refl _ _ | exact (Upd.refl _ _).drew)).mono ?_;rintro e w3 ⟨rfl,rfl⟩))
   all_goals
    go_wp2_with fail;go_meet;exact ⟨⟨_,_,rfl,H1.out⟩,rfl,HV1.out⟩
  case rest =>
   obtain ⟨⟨og,ocap,rfl,hrow⟩,rfl,huO⟩:=hcut;generalize hwO:wc=wO at *;have HO:=Lib.hid (And.intro hrow huO);obtain ⟨y0,y1,y2,y3⟩:=HC.out wO huO;have hKER:=(HLI.out wO huO).mem.ker;have HALL:=Lib.hid (all_spec b (100+m9) K F M wO hKER HX.out.1 (by rw [HX.out.2.2.2.2.1];simp) (by omega) (by omega));have hFlt:=hKER.lt;have HFL:Hid (∀ k,k∈F->k<wq.heap.size):=(HLI.out wq (Upd.refl _ _)).mem.ker.lt;clear hrow huO hwO hKER z0 z1 z2 z3 hFlt;go_upto_region 6 with fail;go_wp2_with fail;refine HALL.out.mono ?_;rintro e w4 hP;obtain ⟨Q,hQ,rfl,hmv⟩:=hP.ex;have hund:=Und.all (M:=M) HOL.out ((100+m9:Nat):Int) Q;have hok:=MV.allF_ok hn6 HOL.out ((100+m9:Nat):Int) Q;have hql:=hQ.len;have htr:=hok.tr;rw [HX.out.2.2.2.2.1] at htr;generalize (M.allF ((100+m9:Nat):Int) Q).sw=so;generalize hMA:(M.allF ((100+m9:Nat):Int) Q).M=MA at *;generalize MA.live=la4;have hu5:Upd [] w4 (w4.alloc (.cells #[.int .i64 M.live,.int .i64 la4,.int .i64 so,.bool false] 36 (0,0))):=(Upd.refl [] w4).alloc _;have HM5:=Lib.hid (hmv.keep hu5)
   have HCA:Hid (∀ (N:MV) z,KMove b K F N wO z->z.cell? ⟨a,0,none⟩=some (.pointer (some ⟨b,0,none⟩))):=fun N z k=>by
    obtain ⟨K',F',q1,q2,q3,q4,q5⟩:=k.ex;exact ((HLI.out wO HO.out.2).kernel q1 q4 q5).1.cells.1
   have hT0:MA.undoN MA.trail.length=M:=by
    obtain ⟨j,e1,e2⟩:=hund;rw [HX.out.2.2.2.2.1] at e1
    rw [e1];simpa using e2
   have HUND:=Lib.hid hT0;clear hP hmv hund hok hMA hT0 HALL y0 y1 y2 y3;go_upto_region 7 with fail;generalize hw5:w4.alloc (.cells #[.int .i64 M.live,.int .i64 la4,.int .i64 so,.bool false] 36 (0,0))=w5 at *;have x0:=HCA.out _ _ HM5.out
   have HTR:Hid (Calls Tryz.prog 40 #[.pointer (some ⟨b,0,none⟩)] w5 fun e w'=>e=.returned (.int .i64 MA.trail.length)/\w'=w5):=by
    obtain ⟨K',F',q1,q2,q3,q4,q5⟩:=HM5.out.ex;have:=trail_at b K' F' w5 q1;rw [q2.tr] at this;exact this
   clear hu5 hw5;go_wp2_with fail;refine HTR.out.mono ?_;rintro e w6 ⟨rfl,rfl⟩
   have htl:MA.trail.length<=64:=by simp at htr;omega
   obtain ⟨tl,htle⟩ : ∃ tl,MA.trail.length=tl:=⟨_,rfl⟩;rw [htle] at htl HUND ⊢;have HTL:=Lib.hid htle;clear htle htr HTR x0;go_wp2_with fail
   go_loopg [47] tl (fun gg s47 wr=>∃ i:Nat,tl-i=gg/\i<=tl/\s47=.int .i64 i/\KMove b K F (MA.undoN i) wO wr)
   case atStart=>exact ⟨0,by omega,by omega,rfl,HM5.out⟩
   case round =>
    obtain ⟨i,rfl,hi,rfl,hK⟩:=hrel;have x0:=HCA.out _ _ hK
    by_cases hlt:i<tl
    ·have hil:(i:Int)<(tl:Int):=by omega
     have hlen:=MV.undoN_len i MA;rw [HTL.out] at hlen
     have HUN:Hid (Calls Tryz.prog 41 #[.pointer (some ⟨b,0,none⟩)] wr fun e w'=>(∃ l:Nat,e=.returned (.tuple #[.int .i64 l,.int .i64 0]))/\KMove b K F (MA.undoN (i+1)) wO w'):=by
      obtain ⟨K',F',q1,q2,q3,q4,q5⟩:=hK.ex;refine (undo_km b K' F' (MA.undoN i) wr q1 q2 (by omega) (fun e=>by rw [e] at hlen;simp at hlen;omega)).mono ?_;rintro e w' ⟨rfl,hm⟩;refine ⟨⟨_,rfl⟩,?_⟩;rw [MV.undoN_succ]
      exact KMove.then q3 q4 q5 hm
     clear hK;go_wp2_with fail;refine HUN.out.mono ?_;rintro e w7 ⟨⟨l,rfl⟩,hK⟩;have HK:=Lib.hid hK;clear hK;go_wp2_with fail
     go_roundg (tl-(i+1))
     case measure=>omega
     case rel=>exact ⟨i+1,rfl,by omega,by simp,HK.out⟩
    ·obtain rfl:i=tl:=by omega
     have hil:¬ (i:Int)<(i:Int):=by omega
     rw [HUND.out] at hK;obtain ⟨K',F',q1,q2,q3,q4,q5⟩:=hK.ex;obtain ⟨hLI,hfro⟩:=(HLI.out wO HO.out.2).kernel q1 q4 q5;have hup:=Fro.upd (HUP.out wO HO.out.2) (Nat.le_refl _) hfro;obtain ⟨hlg,hal,hrf⟩:=HX.out.2.1.stay HX.out.2.2.1 q3 q1.ok q2 HX.out.2.2.2.1
     have hr2:wr.ownsRow wq.heap.size 3 1 (.slice (some ⟨og,0,none⟩) M.order.length ocap) M.order.length (flatN M.order):=row_keep HO.out.1 fun k hk=>q4.block k (HO.out.1.lt k hk).2 fun hm=>by
      have h1:=HFL.out k hm;have h2:=(HO.out.1.lt k hk).1;omega
     have HR2:Hid (∀ z,Upd [] wr z->z.ownsRow wq.heap.size 3 1 (.slice (some ⟨og,0,none⟩) M.order.length ocap) M.order.length (flatN M.order)):=fun z u=>row_keep hr2 fun k hk=>u.block k (hr2.lt k hk).2 (by simp)
     have HOR2:Hid (Calls Tryz.prog 38 #[.pointer (some ⟨b,0,none⟩)] wr fun e w'=>∃ (g cap:Nat),e=.returned (.slice (some ⟨g,0,none⟩) M.order.length cap)/\w'.ownsRow wr.heap.size 3 1 (.slice (some ⟨g,0,none⟩) M.order.length cap) M.order.length (flatN M.order)/\Upd [] wr w'):=by
      rw [q2.agr.same.od];exact order_at_spec b K' F' wr q1
     have HLV2:Hid (∀ z,Upd [] wr z->Calls Tryz.prog 39 #[.pointer (some ⟨b,0,none⟩)] z fun e w'=>e=.returned (.int .i64 M.live)/\w'=z):=fun z u=>by
      have:=live_at b K' F' z (q1.upd u (by simp));rw [q2.live q1.ok q1.uni] at this;exact this
     have HST2:Hid (∀ z,Upd [] wr z->Calls Tryz.prog 19 #[.agg #[.pointer (some ⟨b,0,none⟩),.pointer (some ⟨m,0,none⟩),.slice xa refs.length xc,.slice ya tabs.length yc]] z fun e w'=>e=.returned (.bool true)/\Upd [] z w'):=fun z u =>
      stands_spec b m _ _ K' F' M p refs tabs z (WIn.of (hLI.keep0 u).mem hlg) (by rw [q2.tr]) (by rw [HX.out.2.2.2.2.1];simp)
     have HC2:Hid (∀ z,Upd [] wr z->z.cell? ⟨a,0,none⟩=some (.pointer (some ⟨b,0,none⟩))/\z.cell? ⟨a,1,none⟩=some (.pointer (some ⟨m,0,none⟩))/\z.cell? ⟨a,2,none⟩=some (.slice xa refs.length xc)/\z.cell? ⟨a,3,none⟩=some (.slice ya tabs.length yc)):=fun z u=>(hLI.keep0 u).cells
     have HUP2:Hid (∀ z,Upd [] wr z->Upd [] w z):=fun z u=>hup.trans u
     clear hK q1 q2 q3 q4 q5 hLI hfro hup hlg hal hrf hr2;go_wp2_with fail;refine HOR2.out.mono ?_;rintro e w8 ⟨g8,c8,rfl,r8,u8⟩;have HI8:=Lib.hid (ints_spec _ _ _ _ M.order w8 r8 (HR2.out w8 u8) (by rw [HOL.out];omega));have HU8:=Lib.hid u8;obtain ⟨y0,y1,y2,y3⟩:=HC2.out w8 u8;clear r8 u8 x0;go_wp2_with fail;refine HI8.out.mono ?_;rintro e w9 ⟨rfl,u9⟩;have HU9:=Lib.hid (HU8.out.trans u9);clear u9 y0 y1 y2 y3;obtain ⟨y0,y1,y2,y3⟩:=HC2.out w9 HU9.out;go_wp2_with fail;refine (HLV2.out _ HU9.out).mono ?_;rintro e w10 ⟨rfl,rfl⟩;go_wp2_with fail;refine (HST2.out _ HU9.out).mono ?_;rintro e w11 ⟨rfl,u11⟩;have HU11:=Lib.hid (HUP2.out _ (HU9.out.trans u11));clear u11 y0 y1 y2 y3;go_wp2_with fail;go_ret;exact ⟨rfl,HU11.out⟩
end Go.Proofs.YtpfafhmkbcahhaaGreat
