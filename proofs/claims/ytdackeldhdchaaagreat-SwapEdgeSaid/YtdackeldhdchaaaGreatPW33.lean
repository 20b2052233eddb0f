import Derived.Test.YtdackeldhdchaaaGreatPW32
import Derived.Test.YtdackeldhdchaaaGreatPW28
import Derived.Test.YtdackeldhdchaaaGreatPW30
import Derived.Test.YtdackeldhdchaaaGreatPW31
set_option maxRecDepth 100000
set_option maxHeartbeats 3200000
namespace Go.Proofs.YtdackeldhdchaaaGreat
open Go.RowKit Go.Maps Go.ChangeMaps Go.WideShapes Go.ChangeShapes Go.ChangeAt
structure adt where
 n:Int
 a:Option Addr
 len:Nat
 cap:Nat
 ws:List Int
def adt.cells (t:adt):List Value:=[.int .i64 t.n,.slice t.a t.len t.cap]
def adt.tv (t:adt):TV:=⟨t.n.toNat,t.ws⟩
structure aeX (w:World) (a:Option Addr) (n c:Nat) (Ts:List adt):Prop where
 len:Ts.length=n
 nc:n<=c
 cm:c<=maxLen
 at_:∀ i,i<n->∃ (g:Addr) (t:adt),a=some g/\Ts[i]?=some t/\w.cell? (g.add (i*2))=some (.int .i64 t.n)/\w.cell? ((g.add (i*2)).add 1)=some (.slice t.a t.len t.cap)/\aiF w .u64 t.a t.len t.cap t.ws
theorem aeX.keep0 {w w':World} {a:Option Addr} {n c:Nat} {Ts:List adt} (h:aeX w a n c Ts) (u:Upd [] w w'):aeX w' a n c Ts :=
 ⟨h.len,h.nc,h.cm,fun i hi=>by obtain ⟨g,t,e1,e2,e3,e4,e5⟩:=h.at_ i hi;exact ⟨g,t,e1,e2,u.cell0 e3,u.cell0 e4,e5.keep0 u⟩⟩
theorem apn:Tryz.prog.cellsOf 121=2:=by kernel_rfl
theorem ate:Tryz.prog.cellsOf 22=1:=by kernel_rfl
theorem aqx:Tryz.prog.cellsOf 25=4:=by kernel_rfl
theorem add_zero' (g:Addr):g.add 0=g:=by unfold Addr.add;simp
theorem aqy {H:Type} {enc:TypeId × Value->H} {W:World} {fuel:Nat} {cs:List Value} {x:DataW H × List MemPlace} (h:DataW.trod enc Tryz.prog W 0 (fun _=>true) true fuel 121 cs=some x) :
  ∃ t:adt,cs=t.cells/\aiF W .u64 t.a t.len t.cap t.ws:=by
 obtain ⟨ys,m,_,_,hsz,hl,hf⟩:=Go.DataW.trod_struct Tryz.underlying121 h;rw [apn] at hsz
 match cs,hsz with
 | [c0,c1],_ =>
  match ys,hl with
  | [y0,y1],_ =>
   have h0:=hf 0 _ rfl;have h1:=hf 1 _ rfl
   simp [al1,atd] at h0 h1
   obtain ⟨n,e0,_,_⟩:=Go.DataW.trod_int Tryz.underlying3 h0;obtain ⟨a,ln,lc,L,e1,hL⟩:=aiF.of_ints (open_ints Tryz.underlying68 Tryz.underlying90 avc h1)
   simp at e0 e1
   subst e0 e1;exact ⟨⟨n,a,ln,lc,L⟩,rfl,hL⟩
theorem aeX.of_trod {H:Type} {enc:TypeId × Value->H} {W:World} {fuel:Nat} {cs:List Value} {x:DataW H × List MemPlace} (h:DataW.trod enc Tryz.prog W 0 (fun _=>true) true fuel 22 cs=some x) :
  ∃ (a:Option Addr) (n c:Nat) (Ts:List adt),cs=[.slice a n c]/\aeX W a n c Ts:=by
 rcases Go.DataW.trod_slice Tryz.underlying22 h with ⟨rfl,_⟩ | ⟨a,len,cap,elems,rest,n,_,rfl,_,_,hl,hm,hlen,hel,_,_⟩
 ·exact ⟨none,0,0,[],rfl,rfl,Nat.le_refl _,Nat.zero_le _,fun i hi=>by omega⟩
 ·rw [apn] at hel
  have each:∀ i,i<len->∃ t:adt,(∀ j v,t.cells[j]?=some v->W.cell? ((a.add (i*2)).add j)=some v)/\aiF W .u64 t.a t.len t.cap t.ws:=fun i hi=>by
   have h1:=hel i hi;rw [List.getElem?_eq_getElem (by omega)] at h1;obtain ⟨cs',hc,ht⟩:=Option.bind_eq_some_iff.1 h1;obtain ⟨o,rfl,hr⟩:=aqy ht;obtain ⟨_,h7,aBm⟩:=World.cells?_some hc;refine ⟨o,fun j v hv=>?_,hr⟩;rw [aBm j (by rw [<- h7];exact (List.getElem?_eq_some_iff.1 hv).1)];exact hv
  refine ⟨some a,len,cap,(List.range len).pmap (fun i hi=>Classical.choose (each i hi)) (fun i hi=>List.mem_range.1 hi),rfl,by simp,hl,hm,fun i hi=>?_⟩;have hc:=Classical.choose_spec (each i hi);exact ⟨a,Classical.choose (each i hi),rfl,by simp [hi],by have:=hc.1 0 _ rfl;rwa [add_zero'] at this,hc.1 1 _ rfl,hc.2⟩
structure al2 (w:World) (ta la:Option Addr) (tn tc ln lc:Nat) (Ts:List adt) (Ls:List Int):Prop where
 ts:aeX w ta tn tc Ts
 ls:aiF w .i64 la ln lc Ls
theorem ant {H:Type} {enc:TypeId × Value->H} {W:World} {r:Reach} {base:Nat} {v:Value} {d:DataW H} {p:List MemPlace} (h:Value.okWide Tryz.prog W r base 25 v) (hd:DataW.Trod enc Tryz.prog W 0 (fun _=>true) true 25 v d p) :
  ∃ (n room:Int) (ta la:Option Addr) (tn tc ln lc:Nat) (Ts:List adt) (Ls:List Int),v=.agg #[.int .i64 n,.int .i64 room,.slice ta tn tc,.slice la ln lc]/\al2 W ta la tn tc ln lc Ts Ls:=by
 obtain ⟨cs,rfl,hsz,_⟩:=aoK Tryz.underlying25 h;obtain ⟨fuel,hd⟩:=hd;have hsz:=hsz.trans aqx;obtain ⟨l⟩:=cs
 match l,hsz with
 | [c0,c1,c2,c3],_ =>
  obtain ⟨ys,m,_,_,_,hl,hf⟩:=Go.DataW.trod_struct Tryz.underlying25 hd
  match ys,hl with
  | [y0,y1,y2,y3],_ =>
   have h0:=hf 0 _ rfl;have h1:=hf 1 _ rfl;have h2:=hf 2 _ rfl;have h3:=hf 3 _ rfl
   simp [Value.cells,al1,atc,ate] at h0 h1 h2 h3
   obtain ⟨n,e0,_,_⟩:=Go.DataW.trod_int Tryz.underlying3 h0;obtain ⟨room,e1,_,_⟩:=Go.DataW.trod_int Tryz.underlying3 h1;obtain ⟨ta,tn,tc,Ts,e2,hT⟩:=aeX.of_trod h2;obtain ⟨la,ln,lc,Ls,e3,hL⟩:=aiF.of_ints (open_ints Tryz.underlying23 Tryz.underlying3 al1 h3)
   simp at e0 e1 e2 e3
   subst e0 e1 e2 e3;exact ⟨n,room,ta,la,tn,tc,ln,lc,Ts,Ls,rfl,hT,hL⟩
theorem apo {n:Nat} {ws:List Int} (hn:n<=16) (hl:ws.length=aaR n) (hu:∀ x,x∈ws->U64 x) (hf:n<6->ws.getD 0 0/((2 ^ 2 ^ n:Nat):Int)=0):TV.Ok ⟨n,ws⟩:=by
 refine ⟨hn,hl,hu,fun h6 x hx i hi=>?_⟩;have h6:n<6:=h6;have hi:2 ^ n<=i:=hi;have hx:x∈ws:=hx
 have h1:ws.length=1:=by rw [hl];unfold aaR;rw [if_pos (by omega)]
 match ws,h1 with
 | [y],_ =>
  simp at hx
  subst hx;have h2:=hf h6
  simp at h2
  have h3:=hu x (by simp);obtain ⟨m,rfl⟩ : ∃ m:Nat,x=(m:Int):=⟨x.toNat,by unfold U64 at h3;omega⟩;rw [acX];have hp:0<2 ^ 2 ^ n:=Nat.pow_pos (by omega)
  have h4:m<2 ^ 2 ^ n:=by
   have h5:((m/2 ^ 2 ^ n:Nat):Int)=0:=by push_cast;exact_mod_cast h2
   have h6:m/2 ^ 2 ^ n=0:=by omega
   rcases Nat.div_eq_zero_iff.1 h6 with h | h
   ·omega
   ·exact h
  exact Nat.testBit_lt_two_pow (Nat.lt_of_lt_of_le h4 (Nat.pow_le_pow_right (by omega) hi))
structure atf (n room:Int) (tn ln:Nat) (Ts:List adt):Prop where
 n1:1<=n/\n<=8
 room:2<=room/\room<=1048576
 tn:tn<=40
 ln:ln<=200
 ok:∀ t,t∈Ts->t.n=n/\t.tv.Ok
end Go.Proofs.YtdackeldhdchaaaGreat
namespace Go.Proofs.YtdackeldhdchaaaGreat
open Go.RowKit Go.Maps Go.ChangeMaps Go.WideShapes
structure aBn (n:Nat) (ws:List Int) (w:World) (e:Ending) (w':World):Prop where
 ex:∃ B:Bool,e=.returned (.bool B)/\Upd [] w w'/\(B=true->TV.Ok ⟨n,ws⟩)
theorem aoL (n:Nat) (a:Option Addr) (len cap:Nat) (ws:List Int) (w:World) (hn:n<=16) (hr:aiF w .u64 a len cap ws) :
  Calls Tryz.prog 50 #[.agg #[.int .i64 n,.slice a len cap]] w fun e w'=>aBn n ws w e w':=by
 have HU:=Lib.hid ((Upd.refl [] w).alloc (.cells #[.int .i64 n,.slice a len cap] 121 (0,0)));have hb:=adI w (.int .i64 n) (.slice a len cap)
 have HSE:Hid (∀ z,Upd [] (w.alloc (.cells #[.int .i64 n,.slice a len cap] 121 (0,0))) z->z.cell? ⟨w.heap.size,0,none⟩=some (.int .i64 n)/\z.cell? ⟨w.heap.size,1,none⟩=some (.slice a len cap)):=fun z u=>⟨u.cell0 hb.1,u.cell0 hb.2⟩
 have HWS:=Lib.hid (fun z=>ajJ n z hn)
 have hn0:decide ((n:Int)<0)=false:=by simp
 have hn1:decide ((16:Int)<(n:Int))=false:=by simp;omega
 have HR:=Lib.hid hr
 have anR:∀ x,x∈ws->U64 x:=fun x hx=>by
  have h1:=hr.wf x hx
  simp only [Lit.wf,Bool.and_eq_true,decide_eq_true_eq] at h1
  exact ⟨h1.1,by have h2:x<=18446744073709551615:=h1.2;omega⟩
 have aLj:=Lib.hid anR
 by_cases hl:len=aaR n
 ·have HL:=Lib.hid hl
  have akg:=aeY n;obtain ⟨x,rfl,hx⟩:=hr.row.at_ 0 (by omega);have hx0:=(((Upd.refl [] w).alloc (.cells #[.int .i64 n,.slice (some x) len cap] 121 (0,0))).cell0 hx)
  have e0:x.add 0=x:=by unfold Addr.add;simp
  rw [e0] at hx hx0
  have hlen:ws.length=aaR n:=by rw [hr.row.len,hl]
  have hll:len<=1024:=by
   rw [hl];unfold aaR;split
   ·omega
   ·have:(2:Nat) ^ (n-6)<=2 ^ 10:=Nat.pow_le_pow_right (by omega) (by omega)
    omega
  rw [<- hl] at HWS akg
  have hmm:((len:Int) != (len:Int))=false:=by simp
  have hp0:(0:Int)<(len:Int):=by omega
  by_cases h6:6<=n
  ·have hd6:decide ((6:Int)<=(n:Int))=true:=by simp;omega
   have HF:Hid (TV.Ok ⟨n,ws⟩):=apo hn hlen anR (by omega);clear hr anR hl hlen hx hx0 e0 h6 hb
   go_enter Tryz.func50,Tryz.ntmps50
   go_wp2_with fail
   go_region_held3 (fun z=>z.cell? ⟨w.heap.size,0,none⟩=some (.int .i64 n)/\z.cell? ⟨w.heap.size,1,none⟩=some (.slice (some x) len cap)) (first | exact HSE.out _ (Upd.refl _ _).drew) (first
    | (go_at_call 113;refine (HWS.out _).mono ?_;rintro e w2 ⟨rfl,rfl⟩))
   obtain ⟨y0,y1⟩:=HSE.out _ (Upd.refl _ _).drew.drew;go_wp2_with fail
   go_quiet (fail)
   go_wp2_with fail;go_ret;exact ⟨true,rfl,HU.out.drew.drewN _,fun _=>HF.out⟩
  ·have hd6:decide ((6:Int)<=(n:Int))=false:=by simp;omega
   obtain ⟨X,hX⟩ : ∃ X,ws.getD 0 0=X:=⟨_,rfl⟩;rw [hX] at hx0
   have HF:Hid (∀ s:Nat,s=2 ^ n->((X/2 ^ s == 0)=true)->TV.Ok ⟨n,ws⟩):=fun s hs h=>apo hn hlen anR fun _=>by
    subst hs;have h:=eq_of_beq h;rw [hX]
    push_cast
    exact h
   obtain ⟨s,hs⟩ : ∃ s:Nat,s=2 ^ n:=⟨_,rfl⟩;have HS:=Lib.hid hs
   have aLk:s<=32:=by
    have:(2:Nat) ^ n<=2 ^ 5:=Nat.pow_le_pow_right (by omega) (by omega);omega
   have hsl:(s:Int)<64:=by omega
   have hnl:(n:Int)<64:=by omega
   have hw2:IntKind.u64.wrap (2 ^ n)=(s:Int):=by
    have e2:((2:Int) ^ n)=((2 ^ n:Nat):Int):=by push_cast;rfl
    rw [e2,<- hs,IntWalk.u64_in _ (by omega)]
   have hw3:wrap64 (2 ^ n)=(s:Int):=by
    have e2:((2:Int) ^ n)=((2 ^ n:Nat):Int):=by push_cast;rfl
    rw [e2,<- hs];unfold wrap64;omega
   obtain ⟨Bq,hBq⟩ : ∃ Bq,(X/2 ^ s == 0)=Bq:=⟨_,rfl⟩;have HBQ:=Lib.hid hBq;clear hr anR hl hlen hx hX e0 h6 hb hs hBq
   go_enter Tryz.func50,Tryz.ntmps50
   go_wp2_with fail
   go_region_held3 (fun z=>z.cell? ⟨w.heap.size,0,none⟩=some (.int .i64 n)/\z.cell? ⟨w.heap.size,1,none⟩=some (.slice (some x) len cap)) (first | exact HSE.out _ (Upd.refl _ _).drew) (first
    | (go_at_call 113;refine (HWS.out _).mono ?_;rintro e w2 ⟨rfl,rfl⟩))
   obtain ⟨y0,y1⟩:=HSE.out _ (Upd.refl _ _).drew.drew;go_wp2_with fail
   go_quiet (fail)
   go_wp2_with fail;go_ret;exact ⟨(X/2 ^ s == 0),rfl,HU.out.drew.drewN _,HF.out s HS.out⟩
 ·have hne:((len:Int) != ((aaR n:Nat):Int))=true:=by simp;omega
  have aov:¬ ((len:Int)=((aaR n:Nat):Int)):=by omega
  clear hr anR hb
  go_enter Tryz.func50,Tryz.ntmps50
  go_wp2_with fail
  go_region_held3 (fun z=>z.cell? ⟨w.heap.size,0,none⟩=some (.int .i64 n)/\z.cell? ⟨w.heap.size,1,none⟩=some (.slice a len cap)) (first | exact HSE.out _ (Upd.refl _ _).drew) (first
   | (go_at_call 113;refine (HWS.out _).mono ?_;rintro e w2 ⟨rfl,rfl⟩))
  go_wp2_with fail;go_ret;exact ⟨false,rfl,HU.out.drew,fun h=>by cases h⟩
structure ax7 (n room:Int) (tn ln:Nat) (Ts:List adt) (w:World) (e:Ending) (w':World):Prop where
 ex:∃ B:Bool,e=.returned (.bool B)/\Upd [] w w'/\(B=true->atf n room tn ln Ts)
theorem atg (n room:Int) (ta la:Option Addr) (tn tc ln lc:Nat) (Ts:List adt) (w:World) (h:aeX w ta tn tc Ts) (hln:ln<=maxLen) :
  Calls Tryz.prog 12 #[.agg #[.int .i64 n,.int .i64 room,.slice ta tn tc,.slice la ln lc]] w fun e w'=>ax7 n room tn ln Ts w e w':=by
 have HT:=Lib.hid h;have htl:tn<=maxLen:=Nat.le_trans h.nc h.cm;have HB:=Lib.hid (heap_alloc_new w (.cells #[.int .i64 n,.int .i64 room,.slice ta tn tc,.slice la ln lc] 25 (0,0)));obtain ⟨w0,hw0⟩ : ∃ w0,w.alloc (.cells #[.int .i64 n,.int .i64 room,.slice ta tn tc,.slice la ln lc] 25 (0,0))=w0:=⟨_,rfl⟩
 have hu0:Upd [] w w0:=by rw [<- hw0];exact (Upd.refl _ _).alloc _
 rw [hw0] at HB;have HU0:=Lib.hid hu0;have HW0:=Lib.hid hw0
 have HCL:Hid (∀ z,Upd [] w0 z->z.cell? ⟨w.heap.size,0,none⟩=some (.int .i64 n)/\z.cell? ⟨w.heap.size,1,none⟩=some (.int .i64 room)/\z.cell? ⟨w.heap.size,2,none⟩=some (.slice ta tn tc)/\z.cell? ⟨w.heap.size,3,none⟩=some (.slice la ln lc)):=fun z u=>by
  have hb:=(u.block _ (aak HB.out) (by simp)).trans HB.out;exact ⟨aab hb rfl,aab hb rfl,aab hb rfl,aab hb rfl⟩
 unfold maxLen at hln htl;obtain ⟨x0,x1,x2,x3⟩:=HCL.out _ (Upd.refl _ _);clear h hw0 hu0;obtain ⟨b1,hb1⟩ : ∃ b,decide (n<1)=b:=⟨_,rfl⟩;have H1:=Lib.hid hb1;obtain ⟨b2,hb2⟩ : ∃ b,decide (8<n)=b:=⟨_,rfl⟩;have H2:=Lib.hid hb2;obtain ⟨b3,hb3⟩ : ∃ b,decide (room<2)=b:=⟨_,rfl⟩;have H3:=Lib.hid hb3;obtain ⟨b4,hb4⟩ : ∃ b,decide (1048576<room)=b:=⟨_,rfl⟩;have H4:=Lib.hid hb4;obtain ⟨b5,hb5⟩ : ∃ b,decide (40<(tn:Int))=b:=⟨_,rfl⟩;have H5:=Lib.hid hb5;obtain ⟨b6,hb6⟩ : ∃ b,decide (200<(ln:Int))=b:=⟨_,rfl⟩;have H6:=Lib.hid hb6
 by_cases hbad:(b1||b2||b3||b4||b5||b6)=true
 ·have hno:∀ z,Upd [] w z->ax7 n room tn ln Ts w (.returned (.bool false)) z:=fun z u=>⟨false,rfl,u,fun h=>by cases h⟩
  have HNO:=Lib.hid hno;clear hno
  cases b1 <;> cases b2 <;> cases b3 <;> cases b4 <;> cases b5 <;> cases b6 <;> (first | (exact absurd hbad (by decide)) | (
   clear hbad
   go_enter Tryz.func12,Tryz.ntmps12
   go_upto_region 1 with fail;rw [HW0.out];go_wp2_with fail;go_ret
   exact HNO.out _ HU0.out))
 ·have hg:b1=false/\b2=false/\b3=false/\b4=false/\b5=false/\b6=false:=by
   simp only [Bool.or_eq_true,not_or,Bool.not_eq_true] at hbad
   exact ⟨hbad.1.1.1.1.1,hbad.1.1.1.1.2,hbad.1.1.1.2,hbad.1.1.2,hbad.1.2,hbad.2⟩
  obtain ⟨rfl,rfl,rfl,rfl,rfl,rfl⟩:=hg;clear hbad
  have H0:Hid ((1<=n/\n<=8)/\(2<=room/\room<=1048576)/\tn<=40/\ln<=200):=by
   have a1:=of_decide_eq_false H1.out;have a2:=of_decide_eq_false H2.out;have a3:=of_decide_eq_false H3.out;have a4:=of_decide_eq_false H4.out;have a5:=of_decide_eq_false H5.out;have a6:=of_decide_eq_false H6.out;exact ⟨⟨by omega,by omega⟩,⟨by omega,by omega⟩,by omega,by omega⟩
  have aLl:=H0.out.2.2.1;clear H1 H2 H3 H4 H5 H6 hln htl
  go_enter Tryz.func12,Tryz.ntmps12
  go_upto_region 1 with fail;rw [HW0.out];go_wp2_with fail;clear hb1 hb2 hb3 hb4 hb5 hb6
  go_loopg [38] tn (fun g s38 wr=>∃ i:Nat,tn-i=g/\i<=tn/\s38=.int .i64 i/\Upd [] w0 wr/\∀ j t,j<i->Ts[j]?=some t->t.n=n/\t.tv.Ok)
  case atStart=>exact ⟨0,by omega,by omega,rfl,Upd.refl _ _,fun j t hj=>by omega⟩
  case round =>
   obtain ⟨i,rfl,hi,rfl,hU,hok⟩:=hrel;have HOK:=Lib.hid hok;have HU:=Lib.hid hU;clear hok x0 x1 x2 x3
   by_cases hlt:i<tn
   ·have hil:(i:Int)<(tn:Int):=by omega
    obtain ⟨g,t,rfl,ht,c0,c1,hr⟩:=(HT.out.keep0 (HU0.out.trans hU)).at_ i hlt;rw [Addr.add_succ' _ 0] at c1
    simp only [Nat.zero_add] at c1
    have HTT:=Lib.hid ht;obtain ⟨tN,htN⟩ : ∃ tN,t.n=tN:=⟨_,rfl⟩;obtain ⟨tA,htA⟩ : ∃ tA,t.a=tA:=⟨_,rfl⟩;obtain ⟨tL,htL⟩ : ∃ tL,t.len=tL:=⟨_,rfl⟩;obtain ⟨tC,htC⟩ : ∃ tC,t.cap=tC:=⟨_,rfl⟩;rw [htN] at c0;rw [htA,htL,htC] at c1 hr
    have HTV:Hid (TV.Ok ⟨tN.toNat,t.ws⟩->t.tv.Ok):=by rw [<- htN];exact fun h=>h
    have HTN:=Lib.hid htN;clear htN htA htL htC ht;have hbx:=heap_alloc_new wr (.cells #[.int .i64 tN,.slice tA tL tC] 121 (0,0));have hu6:Upd [] wr (wr.alloc (.cells #[.int .i64 tN,.slice tA tL tC] 121 (0,0))):=(Upd.refl _ _).alloc _;obtain ⟨w6,hw6⟩ : ∃ w6,wr.alloc (.cells #[.int .i64 tN,.slice tA tL tC] 121 (0,0))=w6:=⟨_,rfl⟩;rw [hw6] at hbx hu6;have HW6:=Lib.hid hw6;have y0:w6.cell? ⟨wr.heap.size,0,none⟩=some (.int .i64 tN):=aab hbx rfl;have y1:w6.cell? ⟨wr.heap.size,1,none⟩=some (.slice tA tL tC):=aab hbx rfl;have x0:=(HCL.out w6 (HU.out.trans hu6)).1;have HU6:=Lib.hid hu6;have HR:=Lib.hid (hr.keep0 hu6);clear hU hr hw6 hbx hu6
    by_cases hn:tN=n
    ·have hN:tN=((tN.toNat:Nat):Int):=by have h1:=H0.out.1;omega
     have HFM:=Lib.hid (aoL tN.toNat tA tL tC t.ws w6 (by have h1:=H0.out.1;omega) HR.out);have HNE:=Lib.hid hn;rw [<- hN] at HFM
     have hnn:(tN != n)=false:=by rw [hn];simp
     clear hn hN;go_upto_region 6 with fail;rw [HW6.out];go_wp2_with fail;refine HFM.out.mono ?_;rintro e w7 hE;obtain ⟨B,rfl,hu7,hB⟩:=hE.ex;have HB7:=Lib.hid (And.intro hu7 hB);clear hE hu7 hB;cases B
     ·go_wp2_with fail
      go_ret;exact ⟨false,rfl,HU0.out.trans (HU.out.trans (HU6.out.trans HB7.out.1)),fun h=>by cases h⟩
     ·go_wp2_with fail
      go_roundg (tn-(i+1))
      case measure=>omega
      case rel =>
       refine ⟨i+1,rfl,by omega,by simp,HU.out.trans (HU6.out.trans HB7.out.1),fun j t' hj ht'=>?_⟩
       by_cases hji:j=i
       ·subst hji
        rw [HTT.out] at ht'
        injection ht' with ht'
        subst ht';exact ⟨HTN.out.trans HNE.out,HTV.out (HB7.out.2 (by simp))⟩
       ·exact HOK.out j t' (by omega) ht'
    ·have hnn:(tN != n)=true:=by simpa using hn
     clear hn;go_upto_region 6 with fail;rw [HW6.out];go_wp2_with fail;go_ret;exact ⟨false,rfl,HU0.out.trans (HU.out.trans HU6.out),fun h=>by cases h⟩
   ·obtain rfl:i=tn:=by omega
    have hil:¬ ((i:Int)<(i:Int)):=by omega
    clear hU;go_wp2_with fail;go_ret
    exact ⟨true,rfl,HU0.out.trans HU.out,fun _=>⟨H0.out.1,H0.out.2.1,H0.out.2.2.1,H0.out.2.2.2,fun t ht=>by
     obtain ⟨j,hj⟩:=List.mem_iff_getElem?.1 ht;have hl:=(List.getElem?_eq_some_iff.1 hj).1;rw [HT.out.len] at hl
     exact HOK.out j t hl hj⟩⟩
theorem ax8 {w:World} {g k:Nat} {C:Array Value} {t:TypeId} {fr:Nat × Nat} {n c:Nat} (h:w.heap[g]?=some (.cells C t fr)) (hk:(Value.slice (some ⟨g,0,none⟩) n c).ownBlock=some k):k<w.heap.size:=by
 have h1:g=k:=by simpa [Value.ownBlock] using hk
 subst h1;exact aak h
structure ChQ (w:World) (e:Ending) (w':World):Prop where
 ex:∃ g:Nat,e=.returned (.agg #[.int .i64 3,.slice (some ⟨g,0,none⟩) 1 1])/\w'.heap[g]?=some (.cells #[.int .u64 216] 90 (0,0))/\w.heap.size<=g/\Upd [] w w'
theorem anu (w:World):Calls Tryz.prog 49 #[] w fun e w'=>ChQ w e w':=by
 have hb1:=heap_alloc_new (w.alloc (.cells #[.int .i64 3,.slice (some ⟨w.heap.size+1,0,none⟩) 1 1] 121 (0,0))) (.cells #[.int .u64 216] 90 (0,0));rw [World.size_alloc] at hb1
 have hb0:((w.alloc (.cells #[.int .i64 3,.slice (some ⟨w.heap.size+1,0,none⟩) 1 1] 121 (0,0))).alloc (.cells #[.int .u64 216] 90 (0,0))).heap[w.heap.size]?=some (.cells #[.int .i64 3,.slice (some ⟨w.heap.size+1,0,none⟩) 1 1] 121 (0,0)) :=
  (Below.heap_alloc _ _ _ (aak (heap_alloc_new _ _))).trans (heap_alloc_new _ _)
 have z0:=aab (j:=0) hb0 rfl;have z1:=aab (j:=1) hb0 rfl;have hu:=((Upd.refl [] w).alloc (.cells #[.int .i64 3,.slice (some ⟨w.heap.size+1,0,none⟩) 1 1] 121 (0,0))).alloc (.cells #[.int .u64 216] 90 (0,0));have HE:Hid (ChQ w (.returned (.agg #[.int .i64 3,.slice (some ⟨w.heap.size+1,0,none⟩) 1 1])) _):=⟨_,rfl,hb1,Nat.le_succ _,hu⟩;clear hb0 hb1 hu
 go_enter Tryz.func49,Tryz.ntmps49
 go_wp2_with fail;refine bodyPost_ret (v:=.agg #[.int .i64 3,.slice (some ⟨w.heap.size+1,0,none⟩) 1 1]) (by simp [results,Tryz.results49,go_sem,z0,z1]) rfl HE.out
theorem al3 (w:World):Calls Tryz.prog 11 #[] w fun e w'=>e=.returned (.bool true)/\Upd [] w w':=by
 go_enter Tryz.func11,Tryz.ntmps11
 go_wp2_with fail;refine (anu w).mono ?_;rintro e w1 hE;obtain ⟨g,rfl,hb,hg,hu1⟩:=hE.ex;have hb2:=heap_alloc_new w1 (.cells #[.int .i64 3,.slice (some ⟨g,0,none⟩) 1 1] 121 (0,0));have hu2:Upd [] w1 (w1.alloc (.cells #[.int .i64 3,.slice (some ⟨g,0,none⟩) 1 1] 121 (0,0))):=(Upd.refl _ _).alloc _;obtain ⟨w2,hw2⟩ : ∃ w2,w1.alloc (.cells #[.int .i64 3,.slice (some ⟨g,0,none⟩) 1 1] 121 (0,0))=w2:=⟨_,rfl⟩;rw [hw2] at hb2 hu2
 have hro:w2.ownsRow 0 90 1 (.slice (some ⟨g,0,none⟩) 1 1) 1 (abA [216]):=aag (w:=w1) ⟨rfl,.inr ⟨g,1,_,rfl,Nat.zero_le _,hb,Nat.le_refl _,by unfold maxLen;omega,rfl,rfl⟩⟩ fun k hk=>hu2.block k (ax8 hb hk) (by simp)
 have hT:TIn w2 [] (.slice (some ⟨g,0,none⟩) 1 1) chT:=⟨asZ,afA.of hro,by simp⟩
 have hL:aea w2 (.slice (some ⟨w1.heap.size,0,none⟩) 1 1) [chT]:=⟨some ⟨w1.heap.size,0,none⟩,1,rfl,by unfold maxLen;simp,fun i t ht=>by
  obtain rfl:i=0:=by have h1:=(List.getElem?_eq_some_iff.1 ht).1;simp at h1;omega
  simp at ht;subst ht
  exact ⟨_,_,rfl,(show w2.cell? ((⟨w1.heap.size,0,none⟩ : Addr).add (0*2))=some (.int .i64 (3:Nat)) from anf (aab (j:=0) hb2 rfl)),akV (i:=0) (aab (j:=1) hb2 rfl),_,hT.any⟩⟩
 have HBG:=Lib.hid (agk 3 10 _ [chT] none 0 0 [] w2 (by omega) (by omega) hL (by simp) (by intro t ht;simp at ht;subst ht;exact ⟨asZ,rfl⟩) ⟨rfl,by unfold maxLen;omega,fun i hi=>by omega⟩ (by omega));have HW2:=Lib.hid hw2;have HU2:=Lib.hid (hu1.trans hu2);clear hT hro hL hb hb2 hu1 hu2 hw2 hg;go_wp2_with fail;rw [HW2.out];refine HBG.out.mono ?_;rintro e w3 hE;obtain ⟨a,b,m,rv,tv,K,F,p,refs,rfl,hP,hl,_,hvr,_,_,hu3⟩:=hE.ex;have hM:(acV 3 10 [chT]).1.exchs []=M15:=rfl;rw [hM] at hP hl;obtain ⟨v1,v2,v3,v4,v5,v6,v7⟩:=as1;obtain ⟨q1,q2,q3⟩:=as2;obtain ⟨MM,hMM⟩ : ∃ MM,M15=MM:=⟨_,rfl⟩;rw [hMM] at hP hl v1 v2 v3 v4 v5 v6 v7 q1 q2 q3;clear hMM hM;have HP:=Lib.hid (And.intro hP (And.intro hl.km hvr));have HU3:=Lib.hid (HU2.out.trans hu3)
 have HCA:Hid (∀ S z,Upd S w3 z->a∉S->z.cell? ⟨a,0,none⟩=some (.pointer (some ⟨b,0,none⟩))):=fun S z u h=>(u.cell (aak hP.blk) h).trans hP.cells.1
 have hRM:=au9 b 0 K F MM w3 hP.mem.ker hl.km (by omega);rw [v2,v3] at hRM;have HRM:=Lib.hid hRM;have a3:=HCA.out [] w3 (Upd.refl _ _) (by simp);clear hE hP hl hvr hu3 hRM HBG;go_wp2_with fail;refine HRM.out.mono ?_;rintro e w4 ⟨rfl,hu4⟩;have HU4:=Lib.hid hu4;have a4:=HCA.out [] w4 hu4 (by simp);clear hu4 a3;go_wp2_with fail;have hK4:=HP.out.1.mem.ker.upd HU4.out (by simp);refine (ajB b 0 K F MM w4 hK4 HP.out.2.1 (by omega)).mono ?_;rintro e w5 hE;obtain ⟨K5,F5,rfl,hK5,hm5,aBp,ax9⟩:=hE.ex;rw [v4,v5];unfold chV;have hu5:Upd F w3 w5:=(HU4.out.mono (by simp):Upd F w3 w4).trans ax9.up;have hbx:=heap_alloc_new w5 (.cells #[.int .i64 0,.int .i64 3,.int .i64 4] 46 (0,0));have hux:Upd [] w5 (w5.alloc (.cells #[.int .i64 0,.int .i64 3,.int .i64 4] 46 (0,0))):=(Upd.refl _ _).alloc _;have HNA:=Lib.hid HP.out.1.na.1;have a6:=HCA.out F (w5.alloc (.cells #[.int .i64 0,.int .i64 3,.int .i64 4] 46 (0,0))) (hu5.trans (hux.mono (by simp))) HNA.out;have HQ5:=Lib.hid (And.intro hK5 (And.intro hm5 (And.intro aBp (And.intro ax9 (And.intro hu5 hbx)))));clear hE hK5 hm5 aBp ax9 hK4 a4 hu5 hbx hux;obtain ⟨w6,hw6⟩ : ∃ w6,w5.alloc (.cells #[.int .i64 0,.int .i64 3,.int .i64 4] 46 (0,0))=w6:=⟨_,rfl⟩;have HW6:=Lib.hid hw6
 have hu6:Upd [] w5 w6:=by rw [<- hw6];exact (Upd.refl _ _).alloc _
 have hb6:=HQ5.out.2.2.2.2.2;rw [hw6] at a6 hb6;have HU6:=Lib.hid (And.intro hu6 hb6);have hBK:=apk b 0 K5 F5 (MM.exch 0) w6 (HQ5.out.1.upd hu6 (by simp)) HQ5.out.2.1 (by omega) (by omega);rw [show (((0:Nat):Int))=0 from rfl] at hBK;have HBK:=Lib.hid hBK;clear hw6 hu6 hb6 hBK;go_upto_region 6 with fail;rw [HW6.out];go_wp2_with fail;refine HBK.out.mono ?_;rintro e w7 hE;obtain ⟨K7,F7,rfl,hK7,hm7,aBq,aya⟩:=hE.ex;rw [v6] at hm7 ⊢
 have hu7:Upd F w3 w7:=((HQ5.out.2.2.2.2.1.trans (HU6.out.1.mono (by simp))).then aya.up fun k hk=>by
  rcases HQ5.out.2.2.2.1.sub k hk with h | h
  ·exact .inl h
  ·exact .inr (Nat.le_trans HU4.out.size h))
 have a7:=HCA.out F w7 hu7 HNA.out;have HQ7:=Lib.hid (And.intro hK7 (And.intro hm7 (And.intro aBq (And.intro aya hu7))));clear hE hK7 hm7 aBq aya hu7 a6 HBK;have hb8:=heap_alloc_new w7 (.cells #[.int .i64 0,.int .i64 1] 3 (0,0));have hu8:Upd [] w7 (w7.alloc (.cells #[.int .i64 0,.int .i64 1] 3 (0,0))):=(Upd.refl _ _).alloc _;obtain ⟨w8,hw8⟩ : ∃ w8,w7.alloc (.cells #[.int .i64 0,.int .i64 1] 3 (0,0))=w8:=⟨_,rfl⟩;rw [hw8] at hb8 hu8;have HW8:=Lib.hid hw8
 have hro:ajy w8 .i64 (some ⟨w7.heap.size,0,none⟩) 2 [0,1]:=⟨rfl,by unfold maxLen;omega,fun i hi=>⟨_,rfl,by
  rcases (show i=0\/i=1 by omega) with rfl | rfl
  ·exact aab hb8 rfl
  ·exact aab hb8 rfl⟩⟩
 have hPL:=aqm b (some ⟨w7.heap.size,0,none⟩) 2 2 [0,1] K7 F7 (MV.backN (1-0) (MM.exch 0)) w8 (HQ7.out.1.upd hu8 (by simp)) HQ7.out.2.1 (by rw [show (1-0:Nat)=1 from rfl,q1];omega) hro (by omega) (fun x hx hm=>by
  injection hx with hx
  subst hx;have:=HQ7.out.1.lt _ hm
  exact absurd this (Nat.lt_irrefl _))
 have HPL:=Lib.hid hPL;have HU8:=Lib.hid hu8;clear hw8 hb8 hu8 hro hPL;go_upto_region 7 with fail;go_wp2_with fail;rw [HW8.out];refine HPL.out.mono ?_;rintro e w9 hE;obtain ⟨v9,K9,F9,rfl,aoM,_,hK9,_,_,ayb⟩:=hE.ex;rw [show (1-0:Nat)=1 from rfl,q3] at aoM;rw [show (1-0:Nat)=1 from rfl,q2];obtain ⟨o9,c9,rfl,_⟩:=aar aoM;obtain ⟨g9,rfl⟩:=abg aoM (by decide);have d0:w9.cell? ⟨g9,3,none⟩=some (.int .i64 1):=aam aoM rfl;have d1:w9.cell? ⟨g9,4,none⟩=some (.int .i64 4):=aam aoM rfl;have d2:w9.cell? ⟨g9,5,none⟩=some (.int .i64 5):=aam aoM rfl
 have hn5:w5.heap.size∉F5:=fun hm=>by have:=HQ5.out.1.lt _ hm;omega
 have hl5:=aak HU6.out.2
 have hn7:w5.heap.size∉F7:=fun hm=>by
  rcases HQ7.out.2.2.2.1.sub _ hm with h | h
  ·exact hn5 h
  ·omega
 have hb7:=(HQ7.out.2.2.2.1.up.block _ hl5 hn5).trans HU6.out.2;have hb8:=(HU8.out.block _ (aak hb7) (by simp)).trans hb7;have hb9:=(ayb.up.block _ (aak hb8) hn7).trans hb8;have e0:=aab (j:=0) hb9 rfl;have e1:=aab (j:=1) hb9 rfl;have e2:=aab (j:=2) hb9 rfl
 have adE:Hid (Upd [] w w9):=by
  have h7:Upd F w3 w9:=(HQ7.out.2.2.2.2.trans (HU8.out.mono (by simp))).then ayb.up fun k hk=>by
   rcases HQ7.out.2.2.2.1.sub k hk with h | h
   ·rcases HQ5.out.2.2.2.1.sub k h with h | h
    ·exact .inl h
    ·exact .inr (Nat.le_trans HU4.out.size h)
   ·exact .inr (Nat.le_trans (Nat.le_trans HU4.out.size (Nat.le_trans HQ5.out.2.2.2.1.up.size HU6.out.1.size)) h)
  exact HU3.out.then h7 fun k hk=>.inr (by
   have h1:=HP.out.1.lo k (.inl hk);have h2:=HU2.out.size
   omega)
 clear hE aoM hK9 ayb hn5 hl5 hn7 hb7 hb8 hb9 a7;go_wp2_with fail;go_ret;exact ⟨rfl,adE.out⟩
theorem aea.of_scene {w:World} {ta:Option Addr} {tn tc:Nat} {Ts:List adt} {n:Nat} (h:aeX w ta tn tc Ts) (hf:∀ t,t∈Ts->t.n=(n:Int)/\t.tv.Ok):aea w (.slice ta tn tc) (Ts.map adt.tv):=by
 have hl:(Ts.map adt.tv).length=tn:=by rw [List.length_map,h.len]
 refine ⟨ta,tc,by rw [hl],by rw [hl];exact Nat.le_trans h.nc h.cm,fun i t ht=>?_⟩;have hi:=(List.getElem?_eq_some_iff.1 ht).1;rw [hl] at hi;obtain ⟨g,r,e1,hr,c0,c1,aav⟩:=h.at_ i hi;rw [List.getElem?_map,hr] at ht
 injection ht with ht
 subst ht;obtain ⟨hn,hok⟩:=hf r (List.mem_of_getElem? hr);have hws:r.tv.ws.length=r.len:=aav.row.len
 have akg:0<r.len:=by rw [<- hws,hok.len];exact aeY _
 obtain ⟨x,hx,_⟩:=aav.row.at_ 0 akg
 have hnn:r.n=((r.tv.n:Nat):Int):=by show r.n=((r.n.toNat:Nat):Int);omega
 refine ⟨g,.slice r.a r.len r.cap,e1,by rw [c0,hnn],c1,w.heap.size,⟨hok,⟨⟨r.a,r.cap,by rw [hws],.inr ⟨x,hx⟩⟩,fun y n' m e j u hj=>?_,fun k hk=>?_,fun k hk=>.inr ⟨⟨_,List.mem_singleton.2 rfl⟩,fun z hz=>?_⟩⟩,fun k hk hm=>?_⟩⟩
 ·injection e with e _ _
  rw [abA,List.getElem?_map] at hj;obtain ⟨v,hv,rfl⟩:=Option.map_eq_some_iff.1 hj;have hjl:=(List.getElem?_eq_some_iff.1 hv).1
  have hjl:j<r.len:=by omega
  obtain ⟨x',hx',hc⟩:=aav.row.at_ j hjl;rw [hx'] at e
  injection e with e
  subst e;rw [hc];have hv':r.ws[j]?=some v:=hv;rw [List.getD_eq_getElem?_getD,hv'];rfl
 all_goals
  have hkl:k<w.heap.size:=by
   obtain ⟨x',hx',hc⟩:=aav.row.at_ 0 akg;rw [hx'] at hk
   have hb:x'.block=k:=by simpa [Value.ownBlock] using hk
   rw [<- hb];have:=World.block_lt_of_cell? _ _ hc
   rwa [ak0] at this
 ·exact ⟨Nat.zero_le _,hkl⟩
 ·rw [List.mem_singleton.1 hz];exact hkl
 ·rw [List.mem_singleton.1 hm] at hkl
  omega
end Go.Proofs.YtdackeldhdchaaaGreat
