import Derived.Test.YtpfafhmkbcahhaaGreatPT30
import Derived.Test.YtpfafhmkbcahhaaGreatPT41
set_option maxRecDepth 100000
set_option maxHeartbeats 6400000
namespace Go.Proofs.YtpfafhmkbcahhaaGreat
open Go.RowKit Go.Maps Go.ChangeMaps Go.WideShapes
theorem ints_spec (b1 b2:Nat) (v1 v2:Value) (l:List Nat) (w:World) (h1:w.ownsRow b1 3 1 v1 l.length (flatN l)) (h2:w.ownsRow b2 3 1 v2 l.length (flatN l)) (hl:l.length<=1048576) :
  Calls Tryz.prog 35 #[v1,v2] w fun e w'=>e=.returned (.bool true)/\Upd [] w w':=by
 obtain ⟨a1,c1,rfl,hg1⟩:=row_nil_len h1;obtain ⟨a2,c2,rfl,hg2⟩:=row_nil_len h2;have H1:=Lib.hid h1;have H2:=Lib.hid h2;clear h1 h2
 go_enter Tryz.func35,Tryz.ntmps35
 go_wp2_with fail
 go_loopg [13] l.length (fun g s13 wr=>∃ i:Nat,l.length-i=g/\i<=l.length/\s13=.int .i64 i/\Upd [] w wr)
 case atStart=>exact ⟨0,by omega,by omega,rfl,Upd.refl _ _⟩
 case round =>
  obtain ⟨i,rfl,hi,rfl,hU⟩:=hrel
  by_cases hlt:i<l.length
  ·obtain ⟨g1,rfl⟩:=row_some H1.out (by omega)
   obtain ⟨g2,rfl⟩:=row_some H2.out (by omega)
   have hil:(i:Int)<(l.length:Int):=by omega
   have x1:=rowI_get (row_keep H1.out fun k hk=>hU.block k (H1.out.lt k hk).2 (by simp)) hlt;have x2:=rowI_get (row_keep H2.out fun k hk=>hU.block k (H2.out.lt k hk).2 (by simp)) hlt;generalize l.getD i 0=X at *;have HU:=Lib.hid hU;clear hU
   have hp0:(0:Int)<=(i:Int):=by omega
   go_wp2_with fail
   go_quiet (fail)
   go_wp2_with fail
   go_roundg (l.length-(i+1))
   case measure=>omega
   case rel=>exact ⟨i+1,rfl,by omega,by simp,HU.out.drewN _⟩
  ·obtain rfl:i=l.length:=by omega
   have hil:¬ ((l.length:Int)<(l.length:Int)):=by omega
   have HU:=Lib.hid hU;clear hU;go_wp2_with fail;go_ret;exact ⟨rfl,HU.out⟩
structure TwoQ (M:MV) (n0:Nat) (w:World) (s5 s6:Value) (w':World):Prop where
 ex:∃ L:List Nat,QSort M M.n L/\w'.ownsRow n0 3 1 s5 L.length (flatN L)/\w'.ownsRow n0 3 1 s6 L.length (flatN L)
 ne:∀ k,s5.ownBlock=some k->s6.ownBlock≠some k
 up:Upd [] w w'
theorem TwoQ.of {M:MV} {w w2 w3:World} {l1 l2:Value} {L1 L2:List Nat} (s1:QSort M M.n L1) (r1:w2.ownsRow w.heap.size 3 1 l1 L1.length (flatN L1)) (u1:Upd [] w w2) (s2:QSort M M.n L2) (r2:w3.ownsRow w2.heap.size 3 1 l2 L2.length (flatN L2)) (u2:Upd [] w2 w3) :
  TwoQ M w.heap.size w l1 l2 w3/\TwoQ M w.heap.size w l2 l1 w3:=by
 obtain rfl:=s1.one s2
 have r1':=row_keep r1 fun k hk=>u2.block k (r1.lt k hk).2 (by simp)
 have r2':=row_base r2 u1.size
 have hne:∀ k,l1.ownBlock=some k->l2.ownBlock≠some k:=fun k h1 h2=>by
  have e1:=(r1.lt k h1).2;have e2:=(r2.lt k h2).1;omega
 exact ⟨⟨⟨L1,s1,r1',r2'⟩,hne,u1.trans u2⟩,⟨⟨L1,s1,r2',r1'⟩,fun k h1 h2=>hne k h2 h1,u1.trans u2⟩⟩
theorem siftQueues_walk (n room:Int) (la wa:Option Addr) (ln lc wn wk:Nat) (Ls Ws:List Int) (w:World) (hL:RowOf w .i64 la ln Ls) (hW:RowOf w .u64 wa wn Ws) (hU:∀ x,x∈Ws->U64 x) :
  Calls Tryz.prog 7 #[.agg #[.int .i64 n,.int .i64 room,.slice la ln lc,.slice wa wn wk]] w fun e w'=>e=.returned (.bool true)/\Upd [] w w':=by
 obtain ⟨ti,hi2,hz2,hs2,hb2⟩:=info_parts Tryz.infoIntM;have HINT:=Lib.hid (And.intro hi2 (And.intro hz2 (And.intro hs2 hb2)));clear hi2 hz2 hs2 hb2
 have HLD:Hid (∀ x:World,Upd [] w x->Calls Tryz.prog 15 #[.agg #[.int .i64 n,.int .i64 room,.slice la ln lc,.slice wa wn wk]] x fun e w'=>LaidX n room ln Ws x e w'):=fun x u =>
  laid_specX n room la wa ln lc wn wk Ls Ws x (hL.keep0 u) (hW.keep0 u) hU
 have HU0:=Lib.hid ((Upd.refl [] w).alloc (.cells #[.int .i64 n,.int .i64 room,.slice la ln lc,.slice wa wn wk] 25 (0,0)));clear hL hW hU
 go_enter Tryz.func7,Tryz.ntmps7
 go_wp2_with fail;refine (HLD.out _ HU0.out).mono ?_;rintro e w1 hE;obtain ⟨b,m,_,_,K,F,M,p,refs,tabs,rfl,hm,hlg,hal,hlo,hu,hpl,hhd,hrl,hhl,hkt,hmt,hvr,hrf,hM⟩:=hE.ex;obtain ⟨xa,xc,rfl,_⟩:=row_nil_len hm.rr;obtain ⟨ya,yc,rfl,_⟩:=hm.tt.form;have e0:worldV b m (.slice xa refs.length xc) (.slice ya tabs.length yc)=.agg #[.pointer (some ⟨b,0,none⟩),.pointer (some ⟨m,0,none⟩),.slice xa refs.length xc,.slice ya tabs.length yc]:=rfl;rw [e0];have hu2:Upd [] w1 (w1.alloc (.cells #[.pointer (some ⟨b,0,none⟩),.pointer (some ⟨m,0,none⟩),.slice xa refs.length xc,.slice ya tabs.length yc] 31 (0,0))):=(Upd.refl _ _).alloc _;have hwz:=HU0.out.size;have hsz1:=hu.size
 have HI:Hid (SftI w w.heap.size w1.heap.size b m (.slice xa refs.length xc) (.slice ya tabs.length yc) refs tabs 0 (w1.alloc (.cells #[.pointer (some ⟨b,0,none⟩),.pointer (some ⟨m,0,none⟩),.slice xa refs.length xc,.slice ya tabs.length yc] 31 (0,0)))):=by
  refine ⟨⟨K,F,M,p,⟨heap_alloc_new _ _,hm.keep0 hu2,⟨fun hk=>by have:=hm.ker.lt _ hk;omega,fun hk=>by have:=hm.mod.lt _ hk;omega⟩,fun k hk=>?_,by rw [World.size_alloc];omega⟩,KM.of hlg hkt hmt,hlg,hal,hrf,by rw [hmt];simp⟩,(HU0.out.trans hu).trans hu2⟩
  rcases hk with h | h | h | h | h
  ·have:=hlo k (.inl h);omega
  ·have:=hlo k (.inr (.inl h));omega
  ·omega
  ·have:=hlo k (.inr (.inr (.inl h)));omega
  ·have:=hlo k (.inr (.inr (.inr h)));omega
 generalize hwA:w1.alloc (.cells #[.pointer (some ⟨b,0,none⟩),.pointer (some ⟨m,0,none⟩),.slice xa refs.length xc,.slice ya tabs.length yc] 31 (0,0))=wA at *;have HWA:=Lib.hid hwA;clear hE hm hlg hal hlo hu hpl hhd hrl hhl hkt hmt hvr hrf hM e0 hu2 hwz hsz1 hwA HLD HU0;go_upto_region 2 with fail;rw [HWA.out];generalize w1.heap.size=a at *;go_wp2_with fail;refine (awake17_spec _).mono ?_;rintro e wB ⟨rfl,hu⟩;have HUB:=Lib.hid hu;clear hu;have hup:=HI.out.up;obtain ⟨K1,F1,M1,p1,q1A,q2,q3,q4,q5,q6⟩:=HI.out.ex;have hn1:M1.n<=6:=q2.fit.n6
 have HIB:Hid (∀ z,Upd [] wB z->LIn z w.heap.size a b m (.slice xa refs.length xc) (.slice ya tabs.length yc) K1 F1 M1 p1 refs tabs):=fun z u=>q1A.keep0 (HUB.out.trans u)
 have HUP:Hid (∀ z,Upd [] wB z->Upd [] w z):=fun z u=>(hup.trans HUB.out).trans u
 have HQU:Hid (∀ z,Upd [] wB z->Calls Tryz.prog 33 #[.pointer (some ⟨b,0,none⟩)] z fun e w'=>QueQ M1 z.heap.size z e w'):=fun z u=>queue_spec b K1 F1 M1 z (HIB.out z u).mem.ker q2
 have HRQ:Hid (∀ z,Upd [] wB z->Calls Tryz.prog 34 #[.pointer (some ⟨m,0,none⟩)] z fun e w'=>QueQ M1 z.heap.size z e w'):=fun z u =>
  rqueue_spec m M1 p1 _ z (HIB.out z u).mem.mod (HIB.out z u).mem.z q2.fit (q2.all q1A.mem.ker.ok)
 have HST:Hid (∀ z,Upd [] wB z->Calls Tryz.prog 19 #[.agg #[.pointer (some ⟨b,0,none⟩),.pointer (some ⟨m,0,none⟩),.slice xa refs.length xc,.slice ya tabs.length yc]] z fun e w'=>e=.returned (.bool true)/\Upd [] z w'):=fun z u =>
  stands_spec b m _ _ K1 F1 _ p1 refs tabs z (WIn.of (HIB.out z u).mem q3) (by rw [q2.tr]) (by omega)
 have HC:Hid (∀ z,Upd [] wB z->z.cell? ⟨a,0,none⟩=some (.pointer (some ⟨b,0,none⟩))/\z.cell? ⟨a,1,none⟩=some (.pointer (some ⟨m,0,none⟩))/\z.cell? ⟨a,2,none⟩=some (.slice xa refs.length xc)/\z.cell? ⟨a,3,none⟩=some (.slice ya tabs.length yc)):=fun z u=>(HIB.out z u).cells
 clear hup q1A q2 q3 q4 q5 q6 HI;go_upto_region 4 with fail;obtain ⟨z0,z1,z2,z3⟩:=HC.out wB (Upd.refl _ _)
 go_cut [5,6] from 20 to 25 (fun s5 s6 wx=>TwoQ M1 wB.heap.size wB s5 s6 wx)
 case first =>
  go_region_held3 (fun w'=>w'.cell? ⟨a,0,none⟩=some (.pointer (some ⟨b,0,none⟩))) (first | exact z0 | exact (HC.out _ HV1.out).1 | exact (HC.out _ HV2.out).1) (first
   | (go_at_call 33;refine (HQU.out _ (by first | exact Upd.refl _ _ | exact (Upd.refl _ _).drew)).mono ?_;rintro e w2 hQ;obtain ⟨l1,L1,rfl,s1,r1,u1⟩:=hQ.ex;have HV1:=Lib.hid (show Upd [] wB w2 by first | exact u1 | exact u1.of_drew);have H1:=Lib.hid (And.intro s1 r1);clear hQ s1 r1 u1)
   | (go_at_call 33;refine (HQU.out _ HV1.out).mono ?_;rintro e w3 hQ;obtain ⟨l2,L2,rfl,s2,r2,u2⟩:=hQ.ex;have HV2:=Lib.hid (HV1.out.trans u2);have H2:=Lib.hid (And.intro s2 (And.intro r2 u2));clear hQ s2 r2 u2))
  all_goals
   have HT:=TwoQ.of (M:=M1) (w:=wB) H1.out.1 H1.out.2 HV1.out H2.out.1 H2.out.2.1 H2.out.2.2;go_wp2_with fail;go_meet
   first | exact HT.1 | exact HT.2
 case rest =>
  obtain ⟨L,hS,hr5,hr6⟩:=hcut.ex;have hne:=hcut.ne;have hu3:=hcut.up;have hLn:=hS.len;obtain ⟨a5,c5,rfl,_⟩:=row_nil_len hr5;obtain ⟨a6,c6,rfl,_⟩:=row_nil_len hr6;obtain ⟨y0,y1,y2,y3⟩:=HC.out wc hu3;have HX:=Lib.hid (And.intro hS (And.intro hr5 (And.intro hr6 (And.intro hne hu3))));generalize hwcC:wc=wC at *;clear hwcC
  have hLl:L.length<=6:=by omega
  obtain ⟨nl,hnl⟩ : ∃ nl,L.length=nl:=⟨_,rfl⟩;rw [hnl] at hLl HX ⊢;have HNL:=Lib.hid hnl;clear hcut hS hr5 hr6 hne hu3 hLn z0 z1 z2 z3 hnl;go_wp2_with fail;refine (HRQ.out _ HX.out.2.2.2.2).mono ?_;rintro e w4 hQ;obtain ⟨l3,L3,rfl,s3,r3,u3⟩:=hQ.ex;obtain rfl:=HX.out.1.one s3;obtain ⟨a7,c7,rfl,_⟩:=row_nil_len r3
  have hr54:=row_keep HX.out.2.1 fun k hk=>u3.block k (HX.out.2.1.lt k hk).2 (by simp)
  have hr64:=row_keep HX.out.2.2.1 fun k hk=>u3.block k (HX.out.2.2.1.lt k hk).2 (by simp)
  rw [HNL.out] at r3 ⊢
  have HIN:Hid (∀ (z:World) (b1 b2:Nat) (v1 v2:Value),z.ownsRow b1 3 1 v1 nl (flatN L)->z.ownsRow b2 3 1 v2 nl (flatN L)->Calls Tryz.prog 35 #[v1,v2] z fun e w'=>e=.returned (.bool true)/\Upd [] z w'):=fun z b1 b2 v1 v2 h1 h2=>by
   rw [<- HNL.out] at h1 h2;exact ints_spec b1 b2 v1 v2 L z h1 h2 (by rw [HNL.out];omega)
  have hne7:∀ k,(Value.slice a5 nl c5).ownBlock=some k->(Value.slice a7 nl c7).ownBlock≠some k:=fun k h1 h2=>by
   have e1:=(HX.out.2.1.lt k h1).2;have e2:=(r3.lt k h2).1;omega
  have HR4:=Lib.hid (And.intro hr54 (And.intro hr64 (And.intro r3 (HX.out.2.2.2.2.trans u3))));have HNE:=Lib.hid (And.intro HX.out.2.2.2.1 hne7);clear hQ s3 r3 u3 hr54 hr64 hne7 y0 y1 y2 y3;go_wp2_with fail;refine (HIN.out _ _ _ _ _ HR4.out.1 HR4.out.2.2.1).mono ?_;rintro e w5 ⟨rfl,hu⟩
  have HR5:Hid (w5.ownsRow wB.heap.size 3 1 (.slice a5 nl c5) nl (flatN L)/\w5.ownsRow wB.heap.size 3 1 (.slice a6 nl c6) nl (flatN L)/\w5.ownsRow wC.heap.size 3 1 (.slice a7 nl c7) nl (flatN L)/\Upd [] wB w5) :=
   ⟨row_keep HR4.out.1 fun k hk=>hu.block k (HR4.out.1.lt k hk).2 (by simp),row_keep HR4.out.2.1 fun k hk=>hu.block k (HR4.out.2.1.lt k hk).2 (by simp),row_keep HR4.out.2.2.1 fun k hk=>hu.block k (HR4.out.2.2.1.lt k hk).2 (by simp),HR4.out.2.2.2.trans hu⟩
  clear hu HR4;go_wp2_with fail
  go_loopg [35] nl (fun gg s35 wr=>∃ (i:Nat) (xs:List Value),nl-i=gg/\i<=nl/\s35=.int .i64 i/\wr.ownsRow wB.heap.size 3 1 (.slice a5 nl c5) nl xs/\Upd (Value.slice a5 nl c5).ownBlock.toList w5 wr)
  case atStart=>exact ⟨0,_,by omega,by omega,rfl,HR5.out.1,Upd.refl _ _⟩
  case round =>
   obtain ⟨i,xs,rfl,hi,rfl,hR,hU⟩:=hrel
   by_cases hlt:i<nl
   ·have hil:(i:Int)<(nl:Int):=by omega
    obtain ⟨g5,rfl⟩:=row_some hR (by omega)
    have hxl:∃ x,xs[i]?=some x:=by
     have:=hR.1;exact ⟨_,List.getElem?_eq_getElem (by omega)⟩
    obtain ⟨x,hx⟩:=hxl;have cx:=row_cell hR hx;have fx:=row_frozen hR i;have HR:=Lib.hid (And.intro hR hU);clear hR hU hx;go_wp2_with fail
    go_roundg (nl-(i+1))
    case measure=>omega
    case rel=>exact ⟨i+1,_,rfl,by omega,by simp,row_set HR.out.1 (j:=i) (by omega) _,HR.out.2.setCell (p:=⟨g5,i,none⟩) (.inl (by simp [Value.ownBlock])) _⟩
   ·obtain rfl:i=nl:=by omega
    have hil:¬ ((i:Int)<(i:Int)):=by omega
    have HR:=Lib.hid (And.intro hR hU)
    have HC2:Hid (∀ x,x∈[Value.int .i64 1,Value.int .i64 2,Value.int .i64 3]->x.oneCell'=true):=by intro x hx;simp at hx;rcases hx with rfl | rfl | rfl <;> rfl
    clear hR hU
    go_wp2_with (at_builtin;go_must (refine wpList_append_lies _ rfl (.tmp 42) (.tmp 43) 22 rfl wB.heap.size 3 ti _ 1 8 Tryz.underlying22 HINT.out.1 HINT.out.2.1 HINT.out.2.2.1 HINT.out.2.2.2 (by rfl) (by decide) _ i xs rfl (HR.out.1.alloc _) ⟨wr.heap.size,0,none⟩ 3 3 [.int .i64 1,.int .i64 2,.int .i64 3] rfl rfl ?c1 HC2.out (by omega) (by unfold maxLen;omega) (by omega) (by rw [World.size_alloc];have:=HR5.out.2.2.2.size;have:=HR.out.2.size;omega) _ rfl ?_))
    try case c1=>exact World.news_of_block (heap_alloc_new wr (.cells #[.int .i64 1,.int .i64 2,.int .i64 3] 3 (0,0)))
    intro g7 cap w7 hown hgr hat hlt5
    have hU7:Upd (Value.slice a5 i c5).ownBlock.toList w5 w7:=(HR.out.2.alloc (.cells #[.int .i64 1,.int .i64 2,.int .i64 3] 3 (0,0))).grown hgr fun k hk=>.inl (by simp [hk])
    have hUB7:Upd [] wB w7:=HR5.out.2.2.2.then hU7 fun k hk=>.inr (HR5.out.1.lt k (Option.mem_toList.1 hk)).1
    have hr6:=row_keep HR5.out.2.1 fun k hk=>hU7.block k (HR5.out.2.1.lt k hk).2 fun hm=>HNE.out.1 k (Option.mem_toList.1 hm) hk
    have hr7:=row_keep HR5.out.2.2.1 fun k hk=>hU7.block k (HR5.out.2.2.1.lt k hk).2 fun hm=>HNE.out.2 k (Option.mem_toList.1 hm) hk
    have H7:=Lib.hid (And.intro hr6 (And.intro hr7 hUB7));obtain ⟨y0,y1,y2,y3⟩:=HC.out w7 hUB7
    have hgt:(0:Int)<(i:Int)+3:=by omega
    have hgt2:decide ((0:Int)<(i:Int)+3)=true:=decide_eq_true hgt;clear hown hgr hat hlt5 hU7 hUB7 hr6 hr7;go_wp2_with fail;refine (HIN.out _ _ _ _ _ H7.out.1 H7.out.2.1).mono ?_;rintro e w8 ⟨rfl,hu⟩;have HU8:=Lib.hid (H7.out.2.2.trans hu)
    have hr8:=row_keep H7.out.2.1 fun k hk=>hu.block k (H7.out.2.1.lt k hk).2 (by simp)
    have HR8:=Lib.hid hr8;obtain ⟨x0,x1,x2,x3⟩:=HC.out w8 HU8.out;clear hu hr8 y0 y1 y2 y3;go_wp2_with fail;refine (HQU.out _ HU8.out).mono ?_;rintro e w9 hQ;obtain ⟨l9,L9,rfl,s9,r9,u9⟩:=hQ.ex;obtain rfl:=HX.out.1.one s9;rw [HNL.out] at r9
    have hr9:=row_keep HR8.out fun k hk=>u9.block k (HR8.out.lt k hk).2 (by simp)
    have HR9:=Lib.hid (And.intro r9 hr9);have HU9:=Lib.hid (HU8.out.trans u9);clear hQ s9 r9 hr9 u9 x0 x1 x2 x3;go_wp2_with fail;refine (HIN.out _ _ _ _ _ HR9.out.1 HR9.out.2).mono ?_;rintro e w10 ⟨rfl,hu⟩;have HU10:=Lib.hid (HU9.out.trans hu);obtain ⟨x0,x1,x2,x3⟩:=HC.out w10 HU10.out;clear hu;go_wp2_with fail;refine (HST.out _ HU10.out).mono ?_;rintro e w11 ⟨rfl,hu⟩;have HU11:=Lib.hid (HUP.out _ (HU10.out.trans hu));clear hu x0 x1 x2 x3;go_wp2_with fail;go_ret;exact ⟨rfl,HU11.out⟩
end Go.Proofs.YtpfafhmkbcahhaaGreat
