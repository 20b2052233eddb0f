import Derived.Test.YtpfafhmkbcahhaaGreatPT36
set_option maxRecDepth 100000
set_option maxHeartbeats 3200000
namespace Go.Proofs.YtpfafhmkbcahhaaGreat
open Go.RowKit Go.Maps Go.ChangeMaps Go.WideShapes
theorem rcheck_spec (m:Nat) (v g:Int) (M:MV) (p:MPtr) (Z:List Nat) (w:World) (h:ModIn w m M p Z) :
  Calls Tryz.prog 75 #[.pointer (some ⟨m,0,none⟩),.int .i64 v,.int .i64 g] w fun e w'=>e=.returned (.int .i64 (M.oneE v g))/\w'=w:=by
 obtain ⟨c0,_⟩:=h.cells;obtain ⟨E,hE⟩ : ∃ E,M.oneE v g=E:=⟨_,rfl⟩;rw [hE];have HE:=Lib.hid hE;clear hE h
 by_cases h1:g<100
 ·have hd:decide (g<100)=true:=decide_eq_true h1
  obtain rfl:E=1:=by rw [<- HE.out];unfold MV.oneE;rw [if_pos (.inl h1)]
  clear h1
  go_enter Tryz.func75,Tryz.ntmps75
  go_wp2_with fail;go_ret;exact ⟨rfl,rfl⟩
 ·have H1:=Lib.hid h1
  have hd:decide (g<100)=false:=decide_eq_false h1
  by_cases h2:1000<g
  ·obtain rfl:E=1:=by rw [<- HE.out];unfold MV.oneE;rw [if_pos (.inr h2)]
   clear h1
   go_enter Tryz.func75,Tryz.ntmps75
   go_wp2_with fail;go_ret;exact ⟨rfl,rfl⟩
  ·have H2:=Lib.hid h2
   have hgo:¬ (g<100\/1000<g):=by omega
   by_cases h3:v<0
   ·have hd3:decide (v<0)=true:=decide_eq_true h3
    obtain rfl:E=2:=by rw [<- HE.out];unfold MV.oneE;rw [if_neg hgo,if_neg (by omega)]
    clear h1 h3 hgo
    go_enter Tryz.func75,Tryz.ntmps75
    go_wp2_with fail;go_ret;exact ⟨rfl,rfl⟩
   ·have hd3:decide (v<0)=false:=decide_eq_false h3
    by_cases h4:(M.n:Int)<=v
    ·obtain rfl:E=2:=by rw [<- HE.out];unfold MV.oneE;rw [if_neg hgo,if_neg (by omega)]
     clear h1 h3 hgo
     go_enter Tryz.func75,Tryz.ntmps75
     go_wp2_with fail;go_ret;exact ⟨rfl,rfl⟩
    ·obtain rfl:E=0:=by rw [<- HE.out];unfold MV.oneE;rw [if_neg hgo,if_pos (by omega)]
     clear h1 h3 hgo
     go_enter Tryz.func75,Tryz.ntmps75
     go_wp2_with fail;go_ret;exact ⟨rfl,rfl⟩
structure DocQ (m:Nat) (M:MV) (p0:MPtr) (Z:List Nat) (O:OneV) (w:World) (e:Ending) (w':World):Prop where
 en:e=.returned (.tuple #[.agg #[.int .i64 M.live,.int .i64 O.M.live,.int .i64 O.sw,.bool false],.int .i64 0])
 md:ModE m p0 Z O.M w w'
theorem ModIn.not_ty {w:World} {m k:Nat} {M:MV} {p:MPtr} {Z:List Nat} {C:Array Value} {e:TypeId} {fr:Nat × Nat} (h:ModIn w m M p Z) (hb:w.heap[k]?=some (.cells C e fr)) (h1:90≠e) (h2:3≠e) (h3:232≠e):k∉p.all m:=by
 have key:∀ (t:TypeId),t≠e->(∃ cs fr,w.heap[k]?=some (.cells cs t fr))->False:=by
  rintro t he ⟨cs,fr,h1⟩;rw [hb] at h1
  injection h1 with h1
  injection h1 with _ h1 _
  exact he h1.symm
 intro hk
 rcases MPtr.mem.1 hk with rfl | h4 | h4 | h4
 ·exact key _ h1 ⟨_,_,h.blk⟩
 ·exact key _ h2 (row_type h.os h4)
 ·obtain ⟨xs,hr⟩:=h.hs.row
  exact key _ h3 (row_type hr h4)
 ·exact key _ h2 (row_type h.ts h4)
theorem RfS.beside {w1 w w':World} {m xb rc:Nat} {p0:MPtr} {Z:List Nat} {M:MV} {C D:Array Value} (h:RfS w1 m xb p0 Z M C w) (u:Upd [rc] w w') (hr:rc∈Z) (hb:w.heap[rc]?=some (.cells D 36 (0,0))) :
  (∃ p,ModIn w' m M p (Z++p.all m)/\Sub (p0.all m) w1 (p.all m)/\Upd (rc::xb::p0.all m) w1 w')/\w'.heap[xb]?=some (.cells C 139 (0,0)):=by
 obtain ⟨p,a1,a2,a3⟩:=h.ex;have hn:=a1.not_ty hb (by decide) (by decide) (by decide);refine ⟨⟨p,a1.keep u (fun k hk=>.inl (by simp at hk;subst hk;exact List.mem_append.2 (.inl hr))) (fun k hk hm=>by simp at hm;subst hm;exact hn hk),a3,(a2.mono (fun k hk=>List.mem_cons_of_mem _ hk)).trans (u.mono (fun k hk=>by simp at hk;simp [hk]))⟩,?_⟩
 have hne:xb≠rc:=by
  rintro rfl;have e:=h.blk;rw [hb] at e
  injection e with e
  injection e with _ e _
  exact absurd e (by decide)
 exact (u.block xb (heap_lt h.blk) (by simpa using hne)).trans h.blk
def DocFin (w1:World) (m xb v:Nat) (p0:MPtr) (Z:List Nat) (O:OneV) (z:World):Prop :=
 ∃ (best at_:Nat) (side:Int),RfS w1 m xb p0 Z O.M (rfC m v O.sw best at_ side) z
theorem doc_core (m v g:Nat) (M:MV) (p0:MPtr) (Z:List Nat) (w:World) (h:ModIn w m M p0 Z) (hZ:∀ k,k∈Z->k<w.heap.size) (hG:M.Good) (hv:v∈M.order) (ht:M.trail.length<=800000) (hg1:100<=g) (hg2:g<=1000) :
  Calls Tryz.prog 18 #[.pointer (some ⟨m,0,none⟩),.int .i64 v,.int .i64 g] w fun e w'=>DocQ m M p0 Z (M.oneD (M.lvl v) g) w e w':=by
 obtain ⟨l1,l3⟩:=MV.lvl_at hv;rw [hG.len] at l1;have hn6:=hG.fit.n6;have hvn:v<M.n:=hG.fit.on v hv
 have HE0:Hid (M.oneE v g=0):=by show _=_;unfold MV.oneE;rw [if_neg (by omega),if_pos (by omega)]
 have HCK:=Lib.hid (fun z (u:Upd [] w z)=>rcheck_spec m v g M p0 Z z (h.keep0 u));have HLV:=Lib.hid (fun z (u:Upd [] w z)=>mlevel_spec m v M p0 Z z (h.keep0 u) hv (by have:=hG.fit.ol;omega));have HLI:=Lib.hid (fun z (u:Upd [] w z)=>mlive_spec m M p0 Z z (h.keep0 u) (fun k hk=>Nat.lt_of_lt_of_le (hZ k hk) u.size) hG.fit);have HLE:Hid (M.live<=25344000):=hG.fit.lev_leS;have HM:=Lib.hid (And.intro h hZ);rw [HE0.out] at HCK;obtain ⟨p,hp⟩ : ∃ p,M.lvl v=p:=⟨_,rfl⟩;rw [hp] at HLV l1 l3 ⊢;have HV:=Lib.hid l3;have HVM:=Lib.hid hv;clear h hZ l3 hp hv
 go_enter Tryz.func18,Tryz.ntmps18
 go_wp2_with fail;refine (HCK.out _ ((Upd.refl _ _).alloc _)).mono ?_;rintro e w1 ⟨rfl,rfl⟩;go_wp2_with fail;refine (HLV.out _ ((Upd.refl _ _).alloc _)).mono ?_;rintro e w1 ⟨rfl,rfl⟩;go_wp2_with fail;refine (HLI.out _ ((Upd.refl _ _).alloc _)).mono ?_;rintro e w2 ⟨rfl,hu⟩;have hb0:=(hu.block w.heap.size (by rw [World.size_alloc];omega) (by simp)).trans (heap_alloc_new w (.cells #[.int .i64 0,.int .i64 0,.int .i64 0,.bool false] 36 (0,0)));have hsz:w.heap.size<w2.heap.size:=heap_lt hb0;have hu2:Upd [] w w2:=((Upd.refl [] w).alloc _).trans hu
 have HS:Hid (RfS (w2.alloc (.cells #[.pointer (some ⟨m,0,none⟩),.int .i64 v,.int .i64 0,.int .i64 M.live,.int .i64 p,.int .i64 0] 139 (0,0))) m w2.heap.size p0 (Z++[w.heap.size,w2.heap.size]) M (rfC m v 0 M.live p 0) (w2.alloc (.cells #[.pointer (some ⟨m,0,none⟩),.int .i64 v,.int .i64 0,.int .i64 M.live,.int .i64 p,.int .i64 0] 139 (0,0))) /\
   Upd [] w (w2.alloc (.cells #[.pointer (some ⟨m,0,none⟩),.int .i64 v,.int .i64 0,.int .i64 M.live,.int .i64 p,.int .i64 0] 139 (0,0))) /\
   (w2.alloc (.cells #[.pointer (some ⟨m,0,none⟩),.int .i64 v,.int .i64 0,.int .i64 M.live,.int .i64 p,.int .i64 0] 139 (0,0))).heap[w.heap.size]?=some (.cells #[.int .i64 0,.int .i64 0,.int .i64 0,.bool false] 36 (0,0))):=by
  have hu3:=hu2.alloc (.cells #[.pointer (some ⟨m,0,none⟩),.int .i64 v,.int .i64 0,.int .i64 M.live,.int .i64 p,.int .i64 0] 139 (0,0));refine ⟨⟨⟨p0,?_,Upd.refl _ _,fun k hk=>.inl hk⟩,heap_alloc_new _ _,fun k hk=>?_,by simp⟩,hu3,(heap_alloc_old _ _ hsz).trans hb0⟩
  ·have:=(HM.out.1.apart (Z':=(Z++[w.heap.size,w2.heap.size])++p0.all m) (fun k hk=>?_) (fun k hk=>List.mem_append.2 (.inr hk))).keep0 hu3
   ·exact this
   ·rcases List.mem_append.1 hk with h | h
    ·rcases List.mem_append.1 h with h | h
     ·exact .inl h
     ·simp at h;right;omega
    ·exact .inl (HM.out.1.sz k h)
  ·rw [World.size_alloc]
   rcases List.mem_append.1 hk with h | h
   ·have:=HM.out.2 k h;omega
   ·simp at h;omega
 go_upto_region 6 with fail;generalize hW:w2.alloc (.cells #[.pointer (some ⟨m,0,none⟩),.int .i64 v,.int .i64 0,.int .i64 M.live,.int .i64 p,.int .i64 0] 139 (0,0))=W1 at *;obtain ⟨xb,hxb⟩ : ∃ xb,w2.heap.size=xb:=⟨_,rfl⟩;obtain ⟨rc,hrc⟩ : ∃ rc,w.heap.size=rc:=⟨_,rfl⟩;rw [hxb,hrc] at HS;rw [hxb,hrc]
 have HXR:Hid (rc<xb):=by show rc<xb;omega
 have HLT:Hid (∀ k,k∈p0.all m->k<rc):=fun k hk=>by rw [<- hrc];exact HM.out.2 k (HM.out.1.sz k hk)
 have HWX:Hid (w.heap.size<=xb):=by show _<=_;omega
 have HRC:Hid (w.heap.size<=rc):=by show _<=_;omega
 have c3:W1.cell? ⟨xb,3,none⟩=some (.int .i64 M.live):=cell_at HS.out.1.blk rfl
 have d0:W1.cell? ⟨m,0,none⟩=some (.int .i64 M.n):=by
  obtain ⟨q,a1,_⟩:=HS.out.1.ex;exact a1.cells.1
 clear hW hb0 hsz hu2 hu HLV HLI HCK hxb hrc;obtain ⟨dn,hdn⟩ : ∃ dn,decide (M.n-1-p<=p)=dn:=⟨_,rfl⟩;have HD:=Lib.hid hdn
 have hneg:IntKind.i64.wrap (-(sgn dn))=sgn (!dn):=by cases dn <;> rfl
 have hd3:decide ((M.n:Int)-1-(p:Int)<=(p:Int))=dn:=by rw [<- hdn];exact decide_eq_decide.2 (by omega)
 go_upto_if 43 with fail;clear hd3
 go_cut [12] from 12 to 12 (fun s12 wx=>s12=.int .i64 (sgn dn)/\wx=W1)
 case first =>
  cases dn with
  | true =>
   clear hneg;go_wp2_with fail;go_meet;exact ⟨rfl,rfl⟩
  | false =>
   clear hneg;go_wp2_with fail;go_meet;exact ⟨rfl,rfl⟩
 case rest =>
  obtain ⟨rfl,rfl⟩:=hcut;clear hdn c3 d0;go_wp2_with fail;refine (rwalk_spec wc m xb v p0 (Z++[rc,xb]) M p g dn M.live p 0 0 wc HS.out.1 hG HV.out ht (by omega) HLE.out hg2).mono ?_;rintro e w3 hq;obtain rfl:=hq.en;obtain ⟨j1,b1,k1,h1,hb1,hs⟩:=hq.ex;obtain ⟨q1,m1,o1⟩:=MV.runG h1
  have hp0:∀ d,posD p d 0=p:=fun d=>by cases d <;> simp [posD]
  have hdl:∀ d,distD M.n p d<=6:=fun d=>by unfold distD;split <;> omega
  rw [pick_pos] at hs;have hdl1:=hdl dn;have hdl2:=hdl (!dn);have HU:=Lib.hid (rback_spec wc m xb v p0 (Z++[rc,xb]) M p j1 0 dn b1 (posD p dn k1) (0+j1) _ w3 hs hG HV.out o1 q1 (Nat.zero_le _) ht (by omega));rw [hp0] at HU;have HH1:=Lib.hid (And.intro h1 (And.intro o1 (And.intro q1 m1)));clear hq hs h1 o1 q1 m1 hdl;go_wp2_with fail;refine HU.out.mono ?_;rintro e w4 ⟨rfl,hs⟩;have hs:RfS wc m xb p0 (Z++[rc,xb]) M (rfC m v (0+j1+(j1-0)) b1 (posD p dn k1) (if k1=0 then 0 else sgn dn)) w4:=hs;rw [show 0+j1+(j1-0)=2*j1 by omega] at hs;have HS4:=Lib.hid hs;clear hs HU;go_wp2_with fail;refine (rwalk_spec wc m xb v p0 (Z++[rc,xb]) M p g (!dn) b1 (posD p dn k1) (2*j1) _ w4 HS4.out hG HV.out ht (by have:=HH1.out.2.2.1;omega) hb1 hg2).mono ?_;rintro e w6 hq;obtain rfl:=hq.en;obtain ⟨j2,b2,k2,h2,hb2,hs⟩:=hq.ex;obtain ⟨q3,m2,o2⟩:=MV.runG h2;have HO:Hid (M.oneD p g=oneV M p dn j1 k1 j2 k2):=(OneF.of HH1.out.1 h2).eq HD.out;have HS6:=Lib.hid hs;have HH2:=Lib.hid (And.intro o2 (And.intro q3 m2));obtain ⟨at2,hat2⟩ : ∃ at2,(if k2=0 then posD p dn k1 else posD p (!dn) k2)=at2:=⟨_,rfl⟩;obtain ⟨sd2,hsd2⟩ : ∃ sd2:Int,(if k2=0 then (if k1=0 then 0 else sgn dn) else sgn (!dn))=sd2:=⟨_,rfl⟩
  have c4:w6.cell? ⟨xb,4,none⟩=some (.int .i64 at2):=by rw [<- hat2];exact cell_at hs.blk rfl
  have c5:w6.cell? ⟨xb,5,none⟩=some (.int .i64 sd2):=by rw [<- hsd2];exact cell_at hs.blk rfl
  obtain ⟨q,hq1⟩ : ∃ q,(sd2 == sgn (!dn))=q:=⟨_,rfl⟩
  have HQE:Hid (q=!decide (k2=0)):=by
   show _=_
   rw [<- hq1,<- hsd2]
   by_cases hk:k2=0
   ·rw [if_pos hk,decide_eq_true hk]
    split <;> cases dn <;> rfl
   ·rw [if_neg hk,decide_eq_false hk];simp
  have hj164:j1<=64:=by have:=HH1.out.2.2.1;omega
  have hk164:k1<=64:=by have:=HH1.out.2.2.2;omega
  have hj264:j2<=64:=by have:=HH2.out.2.1;omega
  have HAT:=Lib.hid hat2;have HS4c:=Lib.hid hsd2;clear hq hs o2 q3 m2 h2 HS4 hat2 hsd2;go_upto_if 62 with fail;clear hq1 hneg
  go_cut [] from 63 to 82 (fun wx=>DocFin wc m xb v p0 (Z++[rc,xb]) (M.oneD p g) wx)
  case first =>
   by_cases hk:k2=0
   ·obtain rfl:q=false:=by rw [HQE.out,decide_eq_true hk];rfl
    have HZ:=Lib.hid hk;have HU:=Lib.hid (rback_spec wc m xb v p0 (Z++[rc,xb]) M p j2 0 (!dn) b2 _ _ _ w6 HS6.out hG HV.out HH2.out.1 HH2.out.2.1 (Nat.zero_le _) ht (by omega));rw [hp0] at HU
    have hat:posD p dn k1=at2:=by rw [<- HAT.out,if_pos hk]
    clear c4 c5 hk;go_wp2_with fail;refine HU.out.mono ?_;rintro e w7 ⟨rfl,hs⟩;have hs:RfS wc m xb p0 (Z++[rc,xb]) M (rfC m v (2*j1+j2+(j2-0)) b2 (if k2=0 then posD p dn k1 else posD p (!dn) k2) (if k2=0 then (if k1=0 then 0 else sgn dn) else sgn (!dn))) w7:=hs;rw [HAT.out,HS4c.out,show 2*j1+j2+(j2-0)=2*j1+2*j2 by omega] at hs;have HS7:=Lib.hid hs;clear hs HU;go_wp2_with fail
    go_loopg [] k1 (fun gg wr=>∃ i:Nat,k1-i=gg/\i<=k1/\RfS wc m xb p0 (Z++[rc,xb]) (M.goS p dn i) (rfC m v (2*j1+2*j2+i) b2 at2 sd2) wr)
    case atStart=>exact ⟨0,by omega,by omega,HS7.out⟩
    case round =>
     obtain ⟨i,rfl,hik,hq⟩:=hrel;have c4:wr.cell? ⟨xb,4,none⟩=some (.int .i64 at2):=cell_at hq.blk rfl
     have hoki:M.okD p dn i:=fun x hx=>HH1.out.2.1 x (by have:=HH1.out.2.2;omega)
     have hinj:=posD_inj (n:=M.n) (p:=p) (down:=dn) (j:=i) (k:=k1) (by have:=HH1.out.2.2;omega) (by have:=HH1.out.2.2;omega);rw [hat] at hinj;obtain ⟨l5,l6⟩:=hG.lvl HV.out hoki (by have:=HH1.out.2.2;omega);have HLV:=Lib.hid (hq.level (hG.goS p dn i) l5);rw [l6] at HLV
     by_cases hd:i=k1
     ·subst hd
      rw [hinj.2 rfl] at HLV
      have HF:Hid (∀ z,Upd [] wr z->DocFin wc m xb v p0 (Z++[rc,xb]) (M.oneD p g) z):=fun z u=>by
       rw [HO.out];unfold oneV;rw [if_neg (by have:=HZ.out;omega)];exact ⟨_,_,_,hq.keep u⟩
      clear hq hinj l5 l6;go_wp2_with fail
      go_quiet ((go_at_call 76;exact Calls.quiet_of_same (HLV.out _ ((Upd.refl [] wr).drewN _))))
      go_wp2_with fail;go_meet;exact HF.out _ ((Upd.refl _ _).drewN _)
     ·have hil:i<k1:=by omega
      have hpe2:¬ ((posD p dn i:Nat):Int)=(at2:Int):=fun e=>hd (hinj.1 (by omega))
      have hpe3:(((posD p dn i:Nat):Int) == (at2:Int))=false:=by simpa using hpe2
      have hex:=HH1.out.2.1 i (by have:=HH1.out.2.2;omega);have htr:=(M.goS_trail p dn i)
      have HST:Hid (∀ z,Upd [] wr z->Calls Tryz.prog 80 #[.pointer (some ⟨xb,0,none⟩),.int .i64 (sgn dn)] z fun e w'=>e=.returned (.int .i64 0)/\RfS wc m xb p0 (Z++[rc,xb]) (M.goS p dn (i+1)) (rfC m v (2*j1+2*j2+(i+1)) b2 at2 sd2) w'):=fun z u=>by
       have:=rstep_spec wc m xb v p0 (Z++[rc,xb]) M p i dn (2*j1+2*j2+i) b2 at2 sd2 z (hq.keep u) hG HV.out hoki (by have:=HH1.out.2.2;omega) (by omega) (by omega);rw [hex] at this;exact this
      clear hq hex htr hinj l5 l6;go_wp2_with fail
      go_quiet ((go_at_call 76;exact Calls.quiet_of_same (HLV.out _ ((Upd.refl [] wr).drewN _))))
      go_wp2_with fail;refine (HST.out _ ((Upd.refl _ _).drewN _)).mono ?_;rintro e w9 ⟨rfl,hq⟩;have HQ:=Lib.hid hq;clear hq c4 HST;go_wp2_with fail
      go_roundg (k1-(i+1))
      case measure=>omega
      case rel=>exact ⟨i+1,rfl,by omega,HQ.out⟩
   ·obtain rfl:q=true:=by rw [HQE.out,decide_eq_false hk];rfl
    have HZ:=Lib.hid hk;have HU:=Lib.hid (rback_spec wc m xb v p0 (Z++[rc,xb]) M p j2 k2 (!dn) b2 _ _ _ w6 HS6.out hG HV.out HH2.out.1 HH2.out.2.1 HH2.out.2.2 ht (by omega))
    have hpk:posD p (!dn) k2=at2:=by rw [<- HAT.out,if_neg hk]
    rw [hpk] at HU;clear hk hpk;go_wp2_with fail;refine HU.out.mono ?_;rintro e w7 ⟨rfl,hs⟩
    have HF:Hid (DocFin wc m xb v p0 (Z++[rc,xb]) (M.oneD p g) w7):=by
     rw [HO.out];unfold oneV;rw [if_pos HZ.out]
     have e1:2*j1+(2*j2-k2)=2*j1+j2+(j2-k2):=by have:=HH2.out.2.2;omega
     rw [e1];exact ⟨_,_,_,hs⟩
    clear hs HU;go_wp2_with fail;go_meet;exact HF.out
  case rest =>
   obtain ⟨best,at9,side9,hs⟩:=hcut
   have hGO:(M.oneD p g).M.Good:=by
    rw [HO.out];unfold oneV;split
    ·exact hG.goS _ _ _
    ·exact hG.goS _ _ _
   have HLV:=Lib.hid (hs.live hGO);obtain ⟨_,hs1,hs2⟩:=HS.out
   have hc0:wc.heap[rc]?=some (.cells #[.int .i64 0,.int .i64 0,.int .i64 0,.bool false] 36 (0,0)):=by
    obtain ⟨_,_,a2,_⟩:=hs.ex;refine (a2.block rc (heap_lt hs2) (fun hm=>?_)).trans hs2
    rcases List.mem_cons.1 hm with h | h
    ·have:=HXR.out;omega
    ·have:=HLT.out _ h;omega
   have HC0:=Lib.hid hc0
   have HFIN:Hid (∀ z,Upd [rc] wc z->ModE m p0 Z (M.oneD p g).M w z):=fun z u=>by
    obtain ⟨⟨q,b1,b2,b3⟩,_⟩:=hs.beside u (by simp) HC0.out;refine ⟨q,b1.apart (fun k hk=>.inl ?_) (fun k hk=>List.mem_append.2 (.inr hk)),(hs1.mono (by simp)).then b3 (fun k hk=>?_),fun k hk=>?_⟩
    ·rcases List.mem_append.1 hk with h | h
     ·simp [h]
     ·simp [h]
    ·rcases List.mem_cons.1 hk with rfl | hk
     ·exact .inr HRC.out
     ·rcases List.mem_cons.1 hk with rfl | hk
      ·exact .inr HWX.out
      ·exact .inl hk
    ·rcases b2 k hk with h | h
     ·exact .inl h
     ·right;have:=hs1.size;omega
   have HR4:Hid (∀ z:World,z.heap[rc]?=some (.cells #[.int .i64 0,.int .i64 0,.int .i64 0,.bool false] 36 (0,0))->((((z.setCell ⟨rc,0,none⟩ (.int .i64 M.live)).setCell ⟨rc,1,none⟩ (.int .i64 (M.oneD p g).M.live)).setCell ⟨rc,2,none⟩ (.int .i64 (M.oneD p g).sw)).setCell ⟨rc,3,none⟩ (.bool false)).heap[rc]?=some (.cells #[.int .i64 M.live,.int .i64 (M.oneD p g).M.live,.int .i64 (M.oneD p g).sw,.bool false] 36 (0,0))):=fun z hz=>by
    rw [heap_set_eq (heap_set_eq (heap_set_eq (heap_set_eq hz _) _) _) _];rfl
   have HRI:Hid ((Tryz.prog.info? 36).map (·.size)=some 4):=by show _=_;kernel_rfl
   have c2:wc.cell? ⟨xb,2,none⟩=some (.int .i64 (M.oneD p g).sw):=cell_at hs.blk rfl;have e0:=cell_at (j:=0) hc0 rfl;have e1:=cell_at (j:=1) hc0 rfl;have e2:=cell_at (j:=2) hc0 rfl;have e3:=cell_at (j:=3) hc0 rfl;have g0:=frozen_at 0 hc0;have g1:=frozen_at 1 hc0;have g2:=frozen_at 2 hc0;have g3:=frozen_at 3 hc0;clear hs hs1 hs2 hc0 hGO;go_upto_region 18 with fail
   go_region_with (go_at_call 77;refine (HLV.out _ (by first | exact (Upd.refl _ _).drew | exact (Upd.refl _ _))).mono ?_;rintro e w10 ⟨rfl,hu⟩;have hu:Upd [] wc w10:=hu.of_drew;have HU:=Lib.hid hu;have c2:=hu.cell0 c2;have hc1:=(hu.block rc (heap_lt HC0.out) (by simp)).trans HC0.out;have HC1:=Lib.hid hc1;have e0:=cell_at (j:=0) hc1 rfl;have e1:=cell_at (j:=1) hc1 rfl;have e2:=cell_at (j:=2) hc1 rfl;have e3:=cell_at (j:=3) hc1 rfl;have g0:=frozen_at 0 hc1;have g1:=frozen_at 1 hc1;have g2:=frozen_at 2 hc1;have g3:=frozen_at 3 hc1;clear hu hc1)
   all_goals
    go_wp2_with fail;refine bodyPost_ret (ret_rep rfl _ _ rc #[.int .i64 M.live,.int .i64 (M.oneD p g).M.live,.int .i64 (M.oneD p g).sw,.bool false] (.int .i64 0) _ rfl rfl (HR4.out _ HC1.out) Tryz.underlying36 rfl HRI.out) rfl ⟨rfl,HFIN.out _ ?_⟩;exact (((((HU.out.mono (by simp)).setCell (p:=⟨rc,0,none⟩) (.inl (by simp)) _).setCell (p:=⟨rc,1,none⟩) (.inl (by simp)) _).setCell (p:=⟨rc,2,none⟩) (.inl (by simp)) _).setCell (p:=⟨rc,3,none⟩) (.inl (by simp)) _)
end Go.Proofs.YtpfafhmkbcahhaaGreat
