import Derived.Test.YtlkgkojidclncaaGreatTA24
set_option maxRecDepth 100000
set_option maxHeartbeats 6400000
namespace Go.Proofs.YtlkgkojidclncaaGreat
open Go.RowKit Go.Maps Go.ChangeMaps Go.WideShapes
theorem SesM.more {w:World} {b n c c' tl:Nat} {X:Nat->Prop} {L:List (Nat × ((Nat->Bool)->Bool))} (h:SesM w b X n L c tl) (hc:c<=c'):SesM w b X n L c' tl:=by
 obtain ⟨K,F,h1,h2,h3,h4,h5,h6⟩:=h;exact ⟨K,F,h1,h2,h3,h4,⟨⟨fun x=>Nat.le_trans (h5.g.hh x) hc,h5.g.nm⟩,h5.hl⟩,h6⟩
structure StepU (b:Nat) (X:Nat->Prop) (n:Nat) (L:List (Nat × ((Nat->Bool)->Bool))) (c tl:Nat) (t:(Nat->Bool)->Bool) (w:World) (e:Ending) (w':World):Prop where
 ex:∃ (r:Nat) (code:Int) (L':List (Nat × ((Nat->Bool)->Bool))),e=.returned (.tuple #[.int .u32 r,.int .i64 code])/\((code=0/\(r,t)∈L')\/code=9)/\(∀ x,x∈L->x∈L')/\SesM w' b X n L' (c+1) tl/\Prot X w w'
theorem SesMQ.u {b n c tl:Nat} {X:Nat->Prop} {L:List (Nat × ((Nat->Bool)->Bool))} {t:(Nat->Bool)->Bool} {w w':World} {e:Ending} (h:SesMQ b X n L c tl t w e w'):StepU b X n L c tl t w e w':=by
 obtain ⟨r,code,rfl,_,h1,h2⟩:=h.ex
 rcases h1 with ⟨rfl,h1⟩ | ⟨rfl,_,h1⟩
 ·exact ⟨r,0,_,rfl,.inl ⟨rfl,by simp⟩,fun x hx=>List.mem_append.2 (.inl hx),h1,h2⟩
 ·exact ⟨r,9,L,rfl,.inr rfl,fun x hx=>hx,h1.more (by omega),h2⟩
def cntRow (C:List Int) (i:Nat):List Int:=C.take i++List.replicate (6-i) 0
theorem cntRow_set {C:List Int} {i:Nat} {x:Int} (hl:C.length=6) (hi:C[i]?=some x):(cntRow C i).set i x=cntRow C (i+1):=by
 have hlt:i<C.length:=(List.getElem?_eq_some_iff.1 hi).1;unfold cntRow;rw [List.take_add_one,hi,List.set_append,if_neg (by rw [List.length_take];omega)];rw [List.length_take,Nat.min_eq_left (by omega),Nat.sub_self,show 6-i=(6-(i+1))+1 by omega,List.replicate_succ];simp
def arrU (l:List Int):Array Value:=(l.map fun x=>Value.int .u64 x).toArray
theorem sat_sum {vs:List Nat} {a b o c:(Nat->Bool)->Bool} (ho:∀ y,o y=(a y||b y)) (hc:∀ y,c y=(a y&&b y)):satL vs o+satL vs c=satL vs a+satL vs b:=by
 rw [satL_congr vs ho,satL_congr vs hc,satL_add]
theorem sat_neg {vs:List Nat} {a n:(Nat->Bool)->Bool} (hn:∀ y,n y=!a y):satL vs a+satL vs n=2 ^ vs.length:=by
 rw [satL_congr vs hn,satL_not]
theorem KV.Ok.order_nodup {K:KV} (hk:K.Ok):K.order.Nodup:=hk.perm_range.nodup_iff.2 List.nodup_range
theorem countAdds_walk (nI room iI jI vI:Int) (la sa pa:Option Addr) (ln lc sn sc pn pc:Nat) (Ls:List Int) (Os:List OpV) (w:World) (hL:RowC w .i64 la ln lc Ls) (hS:OpsOf w sa sn sc Os) :
  Calls Tryz.prog 8 #[.agg #[.int .i64 nI,.int .i64 room,.slice la ln lc,.slice sa sn sc,.slice pa pn pc],.int .i64 iI,.int .i64 jI,.int .i64 vI] w fun e w'=>e=.returned (.bool true)/\Upd [] w w':=by
 have hlnc:=hL.nc;have hlcm:=hL.cm;have hsnc:=hS.nc;have hscm:=hS.cm;unfold maxLen at hlcm hscm;have hbx:=heap_alloc_new w (.cells #[.int .i64 nI,.int .i64 room,.slice la ln lc,.slice sa sn sc,.slice pa pn pc] 55 (0,0));have HU0:=Lib.hid ((Upd.refl [] w).alloc (.cells #[.int .i64 nI,.int .i64 room,.slice la ln lc,.slice sa sn sc,.slice pa pn pc] 55 (0,0)));have HLA:=Lib.hid (laid12_spec nI room la sa pa ln lc sn sc pn pc Ls Os _ (hL.keep0 HU0.out) (hS.keep0 HU0.out));obtain ⟨wA,hwA⟩ : ∃ wA,w.alloc (.cells #[.int .i64 nI,.int .i64 room,.slice la ln lc,.slice sa sn sc,.slice pa pn pc] 55 (0,0))=wA:=⟨_,rfl⟩;rw [hwA] at hbx HU0 HLA;have HWA:=Lib.hid hwA;have b4:=cell_at (j:=4) hbx rfl;have b0:=cell_at (j:=0) hbx rfl;have b1:=cell_at (j:=1) hbx rfl;have b2:=cell_at (j:=2) hbx rfl;have b3:=cell_at (j:=3) hbx rfl;clear hL hS hbx hwA
 go_enter Tryz.func8,Tryz.ntmps8
 go_upto_region 1 with fail;rw [HWA.out];go_wp2_with fail;refine HLA.out.mono ?_;rintro e w1 hE;obtain ⟨b,g,cap,L,rfl,hL2,hL18,hgg,hM,hR,hU⟩:=hE.ex;have h1:=Lib.hid (And.intro hM (And.intro hR hU));clear hE hM hR hU b0 b1 b2 b3 b4;go_wp2_with fail;refine (awake12_spec _).mono ?_;rintro e w2 ⟨rfl,hu⟩;have hM2:=h1.out.1.keep0 hu
 have hR2:=row_keep h1.out.2.1 fun k hk=>hu.block k (h1.out.2.1.lt k hk).2 (by simp)
 have HUA:=Lib.hid (HU0.out.trans (h1.out.2.2.trans hu));obtain ⟨nl,hnl⟩ : ∃ nl,L.length=nl:=⟨_,rfl⟩;obtain ⟨j1,hj1,hj1',hj1l⟩:=idx_at nl iI (by omega) (by omega);obtain ⟨j2,hj2,hj2',hj2l⟩:=idx_at nl jI (by omega) (by omega);obtain ⟨⟨r1,f1⟩,hf1⟩ : ∃ p,L[j1]?=some p:=⟨_,List.getElem?_eq_getElem (by omega)⟩;obtain ⟨⟨r2,f2⟩,hf2⟩ : ∃ p,L[j2]?=some p:=⟨_,List.getElem?_eq_getElem (by omega)⟩;have x1:=row_cell hR2 (flatRefs_get (i:=j1) (r:=r1) (by rw [List.getElem?_map,hf1];rfl));have x2:=row_cell hR2 (flatRefs_get (i:=j2) (r:=r2) (by rw [List.getElem?_map,hf2];rfl))
 have hl1:(j1:Int)<(nl:Int):=by omega
 have hl2:(j2:Int)<(nl:Int):=by omega
 have hl0:¬ ((nl:Int)=0):=by omega
 have hnl2:2<=nl:=by omega
 have hnl18:nl<=18:=by omega
 have HM:=Lib.hid hM2;have HF:=Lib.hid (And.intro (List.mem_of_getElem? hf1) (List.mem_of_getElem? hf2))
 have HLN:Hid (L.length-2<=16):=by show _<=_;omega
 obtain ⟨v,hv⟩ : ∃ v,wideN nI=v:=⟨_,rfl⟩
 have hv64:1<=v/\v<=64:=by
  obtain ⟨v',e,_,a,c⟩:=wideN_at nI;omega
 rw [hv] at HM;clear hM2 hR2 hu hf1 hf2 h1 hv hL2 hL18;go_upto_region 4 with fail;clear hnl
 go_quiet (fail)
 have HUD:=Lib.hid (HUA.out.drewN nq);have HMD:=Lib.hid (HM.out.keep0 ((Upd.refl [] w2).drewN nq));generalize w2.drewN nq=wD at *;have HO:=Lib.hid (or_sesM HMD.out (by have:=HLN.out;omega) HF.out.1 HF.out.2);clear x1 x2 hj1 hj1' hj1l hj2 hj2' hj2l hl1 hl2;go_wp2_with fail;refine HO.out.mono ?_;rintro e w3 hE;obtain ⟨ro,co,L1,rfl,hc1,hs1,hM1,hP1⟩:=hE.u.ex;have HC1:=Lib.hid (And.intro hs1 (And.intro hM1 hP1));have HA:=Lib.hid (and_sesM hM1 (by have:=HLN.out;omega) (hs1 _ HF.out.1) (hs1 _ HF.out.2));clear hE hs1 hM1 hP1 HO;go_wp2_with fail;refine HA.out.mono ?_;rintro e w4 hE;obtain ⟨ra,ca,L2,rfl,hc2,hs2,hM2,hP2⟩:=hE.u.ex;have HC2:=Lib.hid (And.intro hs2 (And.intro hM2 hP2));have HN:=Lib.hid (not_sesM hM2 (by have:=HLN.out;omega) (hs2 _ (HC1.out.1 _ HF.out.1)));clear hE hs2 hM2 hP2 HA;go_wp2_with fail;refine HN.out.mono ?_;rintro e w5 hE;obtain ⟨rn,cn,L3,rfl,hc3,hs3,hM3,hP3⟩:=hE.u.ex;have HC3:=Lib.hid (And.intro hs3 (And.intro hM3 hP3));obtain ⟨jv,hjv,hjv',hjvl⟩:=idx_at v vI (by omega) (by omega)
 have hv0:¬ ((v:Int)=0):=by omega
 have HV:=Lib.hid (var_sesM (v:=jv) hM3 (by have:=HLN.out;omega) hjvl)
 have HVR:Hid (Calls Tryz.prog 48 #[.pointer (some ⟨b,0,none⟩)] w5 fun e w'=>e=.returned (.int .i64 v)/\w'=w5):=by
  obtain ⟨K,F,hk,_,_,hn,_⟩:=hM3;have:=vars_at b K F w5 hk
  rw [hn] at this;exact this
 clear hE hs3 hM3 hP3 HN;go_wp2_with fail;refine HVR.out.mono ?_;rintro e w6 ⟨rfl,rfl⟩;go_wp2_with fail;refine HV.out.mono ?_;rintro e w7 hE;obtain ⟨rx,cx,L4,rfl,hc4,hs4,hM4,hP4⟩:=hE.u.ex;have HC4:=Lib.hid (And.intro hs4 (And.intro hM4 hP4));have HUE:Hid (Upd [] w w7):=Upd.prot HUD.out ((((HC1.out.2.2.trans HC2.out.2.2).trans HC3.out.2.2).trans hP4).weak (Y:=fun k=>k<w.heap.size) fun k hk=>.inl (Nat.lt_of_lt_of_le hk HU0.out.size)) (Nat.le_refl _);clear hE hs4 hM4 hP4 HV HVR hjv hjv' hv0
 rcases hc1 with ⟨rfl,hm1⟩ | rfl
 case inr =>
  go_wp2_with fail;go_ret;exact ⟨rfl,HUE.out⟩
 rcases hc2 with ⟨rfl,hm2⟩ | rfl
 case inr =>
  go_wp2_with fail;go_ret;exact ⟨rfl,HUE.out⟩
 rcases hc3 with ⟨rfl,hm3⟩ | rfl
 case inr =>
  go_wp2_with fail;go_ret;exact ⟨rfl,HUE.out⟩
 rcases hc4 with ⟨rfl,hm4⟩ | rfl
 case inr =>
  go_wp2_with fail;go_ret;exact ⟨rfl,HUE.out⟩
 obtain ⟨K,F,⟨T,q,hk,hFq⟩,hX,hXl,hn,hSH,_⟩:=HC4.out.2.1;have in3:∀ x,x∈L3->x∈L4:=HC4.out.1
 have in2:∀ x,x∈L2->x∈L4:=fun x hx=>in3 x (HC3.out.1 x hx)
 have in1:∀ x,x∈L1->x∈L4:=fun x hx=>in2 x (HC2.out.1 x hx)
 have in0:∀ x,x∈L->x∈L4:=fun x hx=>in1 x (HC1.out.1 x hx)
 obtain ⟨t1,d1⟩:=hSH.g.nm _ _ (in0 _ HF.out.1);obtain ⟨t2,d2⟩:=hSH.g.nm _ _ (in0 _ HF.out.2);obtain ⟨t3,d3⟩:=hSH.g.nm _ _ (in1 _ hm1);obtain ⟨t4,d4⟩:=hSH.g.nm _ _ (in2 _ hm2);obtain ⟨t5,d5⟩:=hSH.g.nm _ _ (in3 _ hm3);obtain ⟨t6,d6⟩:=hSH.g.nm _ _ hm4;obtain ⟨C,hC⟩ : ∃ C,[r1,r2,ro,ra,rn,rx].map (fun r=>u64m (satL K.order (K.den r)))=C:=⟨_,rfl⟩
 have HTK:Hid (∀ r,r∈[r1,r2,ro,ra,rn,rx]->K.A.tk r=true):=fun r hr=>by
  simp only [List.mem_cons,List.not_mem_nil,or_false] at hr
  rcases hr with rfl | rfl | rfl | rfl | rfl | rfl <;> assumption
 have hol:K.order.length=v:=by rw [hk.ok.ord.pm.ol,hn]
 have HKI:=Lib.hid hk
 have HSUM:Hid (IntKind.u64.wrap (C.getD 0 0+C.getD 1 0)=IntKind.u64.wrap (C.getD 2 0+C.getD 3 0)/\IntKind.u64.wrap (C.getD 0 0+C.getD 4 0)=u64m (2 ^ v)/\C.getD 5 0=u64m (2 ^ (v-1))/\u64m (satL K.order (K.den 1))=u64m (2 ^ v)):=by
  subst hC;refine ⟨?_,?_,?_,?_⟩
  ·show IntKind.u64.wrap (u64m _+u64m _)=IntKind.u64.wrap (u64m _+u64m _)
   rw [u64m_add,u64m_add,sat_sum (vs:=K.order) (a:=K.den r1) (b:=K.den r2) (o:=K.den ro) (c:=K.den ra) (fun y=>by rw [d3,d1,d2]) (fun y=>by rw [d4,d1,d2])]
  ·show IntKind.u64.wrap (u64m _+u64m _)=_
   rw [u64m_add,sat_neg (vs:=K.order) (a:=K.den r1) (n:=K.den rn) (fun y=>by rw [d5,d1]),hol]
  ·show u64m _=_
   have hjl:jv<K.vars:=by omega
   rw [satL_congr K.order d6,satL_var K.order jv (List.mem_of_getElem? (hk.ok.ord.pm.order_at hjl)) hk.ok.order_nodup,hol]
  ·rw [satL_congr K.order (G:=fun _=>true) (fun y=>K.den_const (by omega) y),satL_true,hol]
 have HNV:=Lib.hid hn
 have hCl:C.length=6:=by subst hC;rfl
 have HCE:Hid (∀ (i:Nat) (r:Nat),[r1,r2,ro,ra,rn,rx][i]?=some r->C[i]?=some (u64m (satL K.order (K.den r)))):=fun i r hi=>by
  subst hC;rw [List.getElem?_map,hi];rfl
 have HCL:=Lib.hid hCl;clear hC hk hFq hX hXl hn hSH in0 in1 in2 in3 t1 t2 t3 t4 t5 t6 d1 d2 d3 d4 d5 d6 hm1 hm2 hm3 hm4 hol hCl HC1 HC2 HC3 HC4;go_upto_region 12 with fail;obtain ⟨TT,hTT⟩ : ∃ TT,[r1,r2,ro,ra,rn,rx]=TT:=⟨_,rfl⟩
 have hb2:((w7.alloc (.cells #[.int .u64 0,.int .u64 0,.int .u64 0,.int .u64 0,.int .u64 0,.int .u64 0] 107 (0,0))).alloc (.cells #[.int .u32 r1,.int .u32 r2,.int .u32 ro,.int .u32 ra,.int .u32 rn,.int .u32 rx] 62 (0,0))).heap[w7.heap.size+1]?=some (.cells (flatRefs TT).toArray 62 (0,0)):=by
  have h:=heap_alloc_new (w7.alloc (.cells #[.int .u64 0,.int .u64 0,.int .u64 0,.int .u64 0,.int .u64 0,.int .u64 0] 107 (0,0))) (.cells #[.int .u32 r1,.int .u32 r2,.int .u32 ro,.int .u32 ra,.int .u32 rn,.int .u32 rx] 62 (0,0));rw [World.size_alloc] at h
  rw [h,<- hTT];rfl
 have ha1:=heap_alloc_new w7 (.cells #[.int .u64 0,.int .u64 0,.int .u64 0,.int .u64 0,.int .u64 0,.int .u64 0] 107 (0,0));have hu9:Upd [] w7 ((w7.alloc (.cells #[.int .u64 0,.int .u64 0,.int .u64 0,.int .u64 0,.int .u64 0,.int .u64 0] 107 (0,0))).alloc (.cells #[.int .u32 r1,.int .u32 r2,.int .u32 ro,.int .u32 ra,.int .u32 rn,.int .u32 rx] 62 (0,0))):=((Upd.refl _ _).alloc _).alloc _;have ha2:=(Below.heap_alloc (w7.alloc (.cells #[.int .u64 0,.int .u64 0,.int .u64 0,.int .u64 0,.int .u64 0,.int .u64 0] 107 (0,0))) (.cells #[.int .u32 r1,.int .u32 r2,.int .u32 ro,.int .u32 ra,.int .u32 rn,.int .u32 rx] 62 (0,0)) _ (heap_lt ha1)).trans ha1;rw [hTT] at HTK HCE
 have hTl:TT.length=6:=by rw [<- hTT];rfl
 obtain ⟨w9,hw9⟩ : ∃ w9,(w7.alloc (.cells #[.int .u64 0,.int .u64 0,.int .u64 0,.int .u64 0,.int .u64 0,.int .u64 0] 107 (0,0))).alloc (.cells #[.int .u32 r1,.int .u32 r2,.int .u32 ro,.int .u32 ra,.int .u32 rn,.int .u32 rx] 62 (0,0))=w9:=⟨_,rfl⟩;rw [hw9] at hb2 ha2 hu9;have HW9:=Lib.hid hw9;have HQA:Hid (∀ k,k∈q.all b->k<w7.heap.size):=HKI.out.mem.lt
 have HS0:Hid (KerIn w9 b K T q/\w9.heap[w7.heap.size]?=some (.cells (arrU (cntRow C 0)) 107 (0,0))/\w9.heap[w7.heap.size+1]?=some (.cells (flatRefs TT).toArray 62 (0,0))/\Upd [] w w9) :=
  ⟨HKI.out.upd hu9 (by simp),ha2,hb2,HUE.out.trans hu9⟩
 have HTL:=Lib.hid hTl;have hz7:w.heap.size<=w7.heap.size:=HUE.out.size;clear hb2 ha1 ha2 hu9 hw9 hTT hTl;go_wp2_with fail;rw [HW9.out];generalize w7.heap.size=A at *
 go_loopg [128] 6 (fun gg s128 wr=>∃ i:Nat,6-i=gg/\i<=6/\s128=.int .i64 i/\KerIn wr b K T q/\wr.heap[A]?=some (.cells (arrU (cntRow C i)) 107 (0,0))/\wr.heap[A+1]?=some (.cells (flatRefs TT).toArray 62 (0,0))/\Upd [] w wr)
 case atStart=>exact ⟨0,by omega,by omega,rfl,HS0.out.1,HS0.out.2.1,HS0.out.2.2.1,HS0.out.2.2.2⟩
 case round =>
  obtain ⟨i,rfl,hi,rfl,hK,hA,hB,hU⟩:=hrel
  by_cases hlt:i<6
  ·have hil:(i:Int)<6:=by omega
   obtain ⟨r,hr⟩ : ∃ r,TT[i]?=some r:=⟨_,List.getElem?_eq_getElem (by rw [HTL.out];exact hlt)⟩;have x0:wr.cell? ⟨A+1,i,none⟩=some (.int .u32 r):=cell_at (j:=i) hB (by simp [flatRefs,hr]);have HSA:=Lib.hid (sats_spec b r K T q wr hK (HTK.out r (List.mem_of_getElem? hr)));have HCI:=Lib.hid (HCE.out i r hr);have HSS:=Lib.hid (And.intro hA (And.intro hB hU));obtain ⟨c,hc⟩ : ∃ c,u64m (satL K.order (K.den r))=c:=⟨_,rfl⟩;rw [hc] at HSA HCI;clear hK hA hB hU hr hc;go_wp2_with fail;refine HSA.out.mono ?_;rintro e w10 hQ;obtain ⟨rfl,hk10,hu10⟩:=hQ;have hA':w10.heap[A]?=_:=(hu10.block A (heap_lt HSS.out.1) (by simp)).trans HSS.out.1;have hB':w10.heap[A+1]?=_:=(hu10.block (A+1) (heap_lt HSS.out.2.1) (by simp)).trans HSS.out.2.1;obtain ⟨old,hold⟩ : ∃ old,(arrU (cntRow C i))[i]?=some old:=⟨_,Array.getElem?_eq_getElem (by simp [arrU,cntRow,HCL.out];omega)⟩;have y0:w10.cell? ⟨A,i,none⟩=some old:=cell_at (j:=i) hA' hold;have yf:=frozen_at i hA';have hA2:=heap_set_eq (j:=i) hA' (.int .u64 c)
   have HR:Hid (KerIn (w10.setCell ⟨A,i,none⟩ (.int .u64 c)) b K T q/\(w10.setCell ⟨A,i,none⟩ (.int .u64 c)).heap[A]?=some (.cells (arrU (cntRow C (i+1))) 107 (0,0))/\(w10.setCell ⟨A,i,none⟩ (.int .u64 c)).heap[A+1]?=some (.cells (flatRefs TT).toArray 62 (0,0))/\Upd [] w (w10.setCell ⟨A,i,none⟩ (.int .u64 c))):=by
    refine ⟨hk10.upd ((Upd.refl [A] w10).setCell (p:=⟨A,i,none⟩) (.inl (by simp)) _) fun k hk hm=>?_,?_,(heap_set_ne (by show A+1≠A;omega)).trans hB',(HSS.out.2.2.trans hu10).setCell (p:=⟨A,i,none⟩) (.inr hz7) _⟩
    ·simp at hm;subst hm
     have:=HQA.out _ hk;omega
    ·rw [hA2]
     have e:(arrU (cntRow C i)).setIfInBounds i (.int .u64 c)=arrU (cntRow C (i+1)):=by
      rw [<- cntRow_set HCL.out HCI.out];simp [arrU,List.map_set]
     rw [<- e]
   clear hk10 hu10 hA' hB' hA2 hold HSS;go_wp2_with fail
   go_roundg (6-(i+1))
   case measure=>omega
   case rel=>exact ⟨i+1,rfl,by omega,by simp,HR.out.1,HR.out.2.1,HR.out.2.2.1,HR.out.2.2.2⟩
  ·obtain rfl:i=6:=by omega
   have hil:¬ ((6:Int)<6):=by omega
   obtain ⟨c0,c1,c2,c3,c4,c5,hCC⟩ : ∃ c0 c1 c2 c3 c4 c5,C=[c0,c1,c2,c3,c4,c5]:=by
    have:=HCL.out
    match C,this with
    | [c0,c1,c2,c3,c4,c5],_=>exact ⟨c0,c1,c2,c3,c4,c5,rfl⟩
   have HSU:=HSUM.out;rw [hCC] at HSU
   have eC:cntRow C 6=[c0,c1,c2,c3,c4,c5]:=by rw [hCC];rfl
   rw [eC] at hA
   have HSA:Hid (Calls Tryz.prog 49 #[.pointer (some ⟨b,0,none⟩),.int .u32 1] wr fun e w'=>AskQ2 b K T q (.int .u64 (u64m (2 ^ v))) wr e w'):=by
    have:=sats_spec b 1 K T q wr hK (hK.ok.tk_const (by omega));rw [HSUM.out.2.2.2] at this;exact this
   have HSS:=Lib.hid (And.intro hA hU);obtain ⟨s1,hs1⟩ : ∃ s,IntKind.u64.wrap (c0+c1)=s:=⟨_,rfl⟩;obtain ⟨s2,hs2⟩ : ∃ s,u64m (2 ^ v)=s:=⟨_,rfl⟩;obtain ⟨hz1,hz2,hz3,_⟩:=HSU;have hz1:IntKind.u64.wrap (c0+c1)=IntKind.u64.wrap (c2+c3):=hz1;have hz2:IntKind.u64.wrap (c0+c4)=u64m (2 ^ v):=hz2;have hz3:c5=u64m (2 ^ (v-1)):=hz3;have HZ:=Lib.hid (And.intro hz1 (And.intro hz2 hz3));clear hK hA hU hCC eC hz1 hz2 hz3 hlt;go_wp2_with fail;refine HSA.out.mono ?_;rintro e w10 hQ;obtain ⟨rfl,hk10,hu10⟩:=hQ;rw [hs2];have HVA:=Lib.hid (fun z (u:Upd [] w10 z)=>vars_at b K _ z ⟨T,q,hk10.upd u (by simp),rfl⟩);rw [HNV.out] at HVA;have hA':w10.heap[A]?=_:=(hu10.block A (heap_lt HSS.out.1) (by simp)).trans HSS.out.1
   have HK:Hid (∀ z,Upd [] w10 z->z.cell? ⟨A,0,none⟩=some (.int .u64 c0)/\z.cell? ⟨A,1,none⟩=some (.int .u64 c1)/\z.cell? ⟨A,2,none⟩=some (.int .u64 c2)/\z.cell? ⟨A,3,none⟩=some (.int .u64 c3)/\z.cell? ⟨A,4,none⟩=some (.int .u64 c4)/\z.cell? ⟨A,5,none⟩=some (.int .u64 c5)):=fun z u=>by
    have h:z.heap[A]?=_:=(u.block A (heap_lt hA') (by simp)).trans hA';exact ⟨cell_at h rfl,cell_at h rfl,cell_at h rfl,cell_at h rfl,cell_at h rfl,cell_at h rfl⟩
   have HU10:=Lib.hid (HSS.out.2.trans hu10);clear hk10 hu10 hA' HSA HSS;go_wp2_with fail;refine (HVA.out _ (Upd.refl _ _)).mono ?_;rintro e w11 ⟨rfl,rfl⟩
   have e2:∀ n:Nat,(2:Int) ^ n=((2 ^ n:Nat):Int):=fun n=>by simp
   have HP1:Hid (∀ n:Nat,IntKind.u64.wrap (1*2 ^ n)=u64m (2 ^ n)):=fun n=>by
    rw [Int.one_mul,e2,u64m_wrap]
   have hm1:IntKind.i64.wrap ((v:Int)-1)=((v-1:Nat):Int):=by rw [IntWalk.i64_in _ (by omega)];omega
   have hm2:wrap64 ((v:Int)-1)=((v-1:Nat):Int):=by rw [IntWalk.wrap64_in _ (by omega)];omega
   obtain ⟨v1,hv1⟩ : ∃ v1,v-1=v1:=⟨_,rfl⟩;rw [hv1] at hm1 hm2
   have hv1l:(v1:Int)<64:=by omega
   have q2:IntKind.u64.wrap (c2+c3)=s1:=by rw [<- HZ.out.1,hs1]
   have q4:IntKind.u64.wrap (c0+c4)=s2:=by rw [HZ.out.2.1,hs2]
   have q5:IntKind.u64.wrap (2 ^ v1)=c5:=by rw [HZ.out.2.2,hv1,e2,u64m_wrap]
   have b1:(s1 == s1)=true:=by simp
   have b2:(s2 == s2)=true:=by simp
   have b5:(c5 == c5)=true:=by simp
   clear HP1 hv1 e2
   by_cases hv:v<64
   ·have hvl:(v:Int)<64:=by omega
    have q6:IntKind.u64.wrap (2 ^ v)=s2:=by
     have e2:∀ n:Nat,(2:Int) ^ n=((2 ^ n:Nat):Int):=fun n=>by simp
     rw [e2,u64m_wrap,hs2]
    clear hs2;go_wp2_with fail;refine (HVA.out _ (Upd.refl _ _)).mono ?_;rintro e w12 ⟨rfl,rfl⟩;go_upto_region 24 with fail
    go_region_held3 (fun z=>z.cell? ⟨A,0,none⟩=some (.int .u64 c0)/\z.cell? ⟨A,1,none⟩=some (.int .u64 c1)/\z.cell? ⟨A,2,none⟩=some (.int .u64 c2)/\z.cell? ⟨A,3,none⟩=some (.int .u64 c3)/\z.cell? ⟨A,4,none⟩=some (.int .u64 c4)/\z.cell? ⟨A,5,none⟩=some (.int .u64 c5)) (first | exact HK.out _ (Upd.refl _ _).drew) (first
     | (go_at_call 48;refine (HVA.out _ (Upd.refl _ _).drew).mono ?_;rintro e w13 ⟨rfl,rfl⟩))
    all_goals go_wp2_with fail
    all_goals go_ret
    all_goals exact ⟨rfl,HU10.out.drew⟩
   ·have hvl:¬ ((v:Int)<64):=by omega
    have h64:v=64:=by omega
    have h0:s2=0:=by rw [<- hs2,h64];rfl
    clear hs2 h64;subst h0;go_wp2_with fail
    go_region_held3 (fun z=>z.cell? ⟨A,0,none⟩=some (.int .u64 c0)/\z.cell? ⟨A,1,none⟩=some (.int .u64 c1)/\z.cell? ⟨A,2,none⟩=some (.int .u64 c2)/\z.cell? ⟨A,3,none⟩=some (.int .u64 c3)/\z.cell? ⟨A,4,none⟩=some (.int .u64 c4)/\z.cell? ⟨A,5,none⟩=some (.int .u64 c5)) (first | exact HK.out _ (Upd.refl _ _).drew) (first
     | (go_at_call 48;refine (HVA.out _ (Upd.refl _ _).drew).mono ?_;rintro e w13 ⟨rfl,rfl⟩))
    all_goals go_wp2_with fail
    all_goals go_ret
    all_goals exact ⟨rfl,HU10.out.drew⟩
end Go.Proofs.YtlkgkojidclncaaGreat
