import Derived.Test.YtdackeldhdchaaaGreatPQ29
import Derived.Deep.RegionHeld3
set_option maxRecDepth 100000
set_option maxHeartbeats 3200000
namespace Go.Proofs.YtdackeldhdchaaaGreat
open Go.RowKit Go.Maps Go.ChangeMaps Go.WideShapes
theorem aE5 (x u:Nat):af7 x u false=x-x/2 ^ u % 2*2 ^ u/\af7 x u true=x-x/2 ^ u % 2*2 ^ u+2 ^ u/\x/2 ^ u % 2*2 ^ u<=x:=by
 have hb:x.testBit u=decide (x/2 ^ u % 2=1):=by
  rw [Nat.testBit_eq_decide_div_mod_eq]
 have hle:x/2 ^ u % 2*2 ^ u<=x:=by
  have h1:x/2 ^ u % 2<=x/2 ^ u:=Nat.mod_le _ _;have h2:x/2 ^ u % 2*2 ^ u<=x/2 ^ u*2 ^ u:=Nat.mul_le_mul_right _ h1;have h3:=Nat.div_mul_le_self x (2 ^ u);omega
 refine ⟨?_,?_,hle⟩
 ·unfold af7
  rw [hb]
  rcases Nat.mod_two_eq_zero_or_one (x/2 ^ u) with h | h
  ·simp [h]
  ·simp [h]
 ·unfold af7
  rw [hb]
  rcases Nat.mod_two_eq_zero_or_one (x/2 ^ u) with h | h
  ·simp [h]
  ·rw [h] at hle ⊢
   simp at hle ⊢
   omega
theorem aE6 (F:Nat->Int) {m n:Nat} (h:n=m):aix F m m=(List.range n).map F:=by
 subst h;unfold aix
 refine List.map_congr_left fun i hi=>?_
 rw [if_pos (List.mem_range.1 hi)]
theorem aG4 (F:Nat->Int) {m n:Nat} (h:n=m):((List.range n).map F).length=m:=by simp [h]
theorem aRq (Q:Nat):(Q:Int).tmod 2=((Q % 2:Nat):Int):=by
 rw [Int.tmod_eq_emod_of_nonneg (Int.natCast_nonneg Q)];omega
theorem aI1 {x s Q:Nat} (h:x/s=Q) (hx:x<=1048576):wrap64 ((x:Int)/(s:Int))=(Q:Int):=by
 have hl:Q<=x:=by rw [<- h];exact Nat.div_le_self x s
 rw [<- Int.natCast_ediv,h];exact IntWalk.wrap64_in _ (by omega)
theorem wrap_mul {x s Q:Nat} (h:x*s=Q) (hx:Q<=1048576):wrap64 ((x:Int)*(s:Int))=(Q:Int):=by
 rw [<- Int.natCast_mul,h];exact IntWalk.wrap64_in _ (by omega)
theorem aI2 {x s:Nat} (h:s<=x) (hx:x<=1048576):wrap64 ((x:Int)-(s:Int))=((x-s:Nat):Int):=by
 rw [IntWalk.wrap64_in _ (by omega)];omega
theorem wrap_add {x s:Nat} (hx:x+s<=1048576):wrap64 ((x:Int)+(s:Int))=((x+s:Nat):Int):=by
 rw [IntWalk.wrap64_in _ (by omega)];omega
theorem aMe {x u s:Nat} (hs:2 ^ u=s) (hx:x<=1024) (h5:s<=512):∃ Q R P J0:Nat,wrap64 ((x:Int)/(s:Int))=(Q:Int)/\(Q:Int).tmod 2=(R:Int)/\wrap64 ((R:Int)*(s:Int))=(P:Int)/\wrap64 ((x:Int)-(P:Int))=(J0:Int)/\wrap64 ((J0:Int)+(s:Int))=((af7 x u true:Nat):Int)/\af7 x u false=J0:=by
 obtain ⟨k1,k2,k3⟩:=aE5 x u;rw [hs] at k1 k2 k3;refine ⟨x/s,x/s % 2,x/s % 2*s,x-x/s % 2*s,aI1 rfl (by omega),aRq _,wrap_mul rfl (by omega),aI2 k3 (by omega),?_,k1⟩;rw [k2];generalize x/s % 2*s=P at *;exact wrap_add (by omega)
theorem aMf (Z:List Nat) (c:Value) (t:TV) (v:Nat) (b:Bool) (w:World) (h:TIn w Z c t) (hv:v<t.n) (hv6:6<=v) :
  Calls Tryz.prog 116 #[aeH t c,.int .i64 v,.bool b] w fun e w'=>aC7 (aee t v b) w e w':=by
 unfold aeH;obtain ⟨i2,hi2,hz2,hs2,hb2⟩:=info_parts Tryz.infoU64;have HI:=Lib.hid (And.intro hi2 (And.intro hz2 (And.intro hs2 hb2)));have hll:=h.ok.len_le;have h16:=h.ok.n16;obtain ⟨fa,ca,hca,_⟩:=ahV h.row;subst hca;have HT:=Lib.hid h;obtain ⟨L,hL⟩ : ∃ L,t.ws.length=L:=⟨_,rfl⟩;rw [hL] at hll;obtain ⟨n,hn⟩ : ∃ n,t.n=n:=⟨_,rfl⟩;rw [hn] at h16 hv;have HN:=Lib.hid (And.intro hL hn);have abP:=h.row;rw [hL] at abP;have aep:=Lib.hid abP
 simp only [hL,hn]
 clear h hi2 hz2 hs2 hb2 hL hn abP;obtain ⟨a0,a1⟩:=alC w (.int .i64 n) (.slice fa L ca);have HBX:=Lib.hid (heap_alloc_new w (.cells #[.int .i64 n,.slice fa L ca] 121 (0,0)));have HRS:=Lib.hid (heap_alloc_new (w.alloc (.cells #[.int .i64 n,.slice fa L ca] 121 (0,0))) (.cells #[.int .i64 0,.slice none 0 0] 121 (0,0)));have q0:=(((Upd.refl [] _).alloc (.cells #[.int .i64 0,.slice none 0 0] 121 (0,0))).cell (World.block_lt_of_cell? _ _ a0) (by simp)).trans a0;have q1:=(((Upd.refl [] _).alloc (.cells #[.int .i64 0,.slice none 0 0] 121 (0,0))).cell (World.block_lt_of_cell? _ _ a1) (by simp)).trans a1;clear a0 a1
 go_enter Tryz.func116,Tryz.ntmps116
 obtain ⟨wa,ra,oa,ga⟩:=run_make_full (P:=Tryz.prog) ((w.alloc (.cells #[.int .i64 n,.slice fa L ca] 121 (0,0))).alloc (.cells #[.int .i64 0,.slice none 0 0] 121 (0,0))).drew w.heap.size 68 90 i2 (.int .u64 0) 1 Tryz.underlying68 HI.out.1 HI.out.2.1 HI.out.2.2.1 .i64 .i64 L (by rw [HI.out.2.2.2];omega) (by unfold maxLen;omega) (by show w.heap.size<=((w.alloc _).alloc _).heap.size;rw [World.size_alloc,World.size_alloc];omega);obtain ⟨wb,rb,ob,gb⟩:=run_make_full (P:=Tryz.prog) (((w.alloc (.cells #[.int .i64 n,.slice fa L ca] 121 (0,0))).alloc (.cells #[.int .i64 0,.slice none 0 0] 121 (0,0))).alloc (.cells #[.int .i64 0,.slice none 0 0] 121 (0,0))).drew w.heap.size 68 90 i2 (.int .u64 0) 1 Tryz.underlying68 HI.out.1 HI.out.2.1 HI.out.2.2.1 .i64 .i64 L (by rw [HI.out.2.2.2];omega) (by unfold maxLen;omega) (by show w.heap.size<=(((w.alloc _).alloc _).alloc _).heap.size;rw [World.size_alloc,World.size_alloc,World.size_alloc];omega);obtain ⟨ua,a1,a2,a3⟩:=aI3 w _ _ ga;obtain ⟨ub,b1,b2,b3,b4⟩:=aI4 w _ _ gb;have pa0:wa.cell? ⟨w.heap.size,0,none⟩=some (.int .i64 n):=aac a1 rfl;have pa1:wa.cell? ⟨w.heap.size,1,none⟩=some (.slice fa L ca):=aac a1 rfl;have az:=(Upd.refl [] wa).alloc (.cells #[.int .i64 0,.slice none 0 0] 121 (0,0));have pd0:=(az.cell (World.block_lt_of_cell? _ _ pa0) (by simp)).trans pa0;have pd1:=(az.cell (World.block_lt_of_cell? _ _ pa1) (by simp)).trans pa1;have pz:=heap_alloc_new wa (.cells #[.int .i64 0,.slice none 0 0] 121 (0,0));have pe0:(wa.alloc (.cells #[.int .i64 0,.slice none 0 0] 121 (0,0))).cell? ⟨wa.heap.size,0,none⟩=some (.int .i64 0):=aac pz rfl;have pe1:(wa.alloc (.cells #[.int .i64 0,.slice none 0 0] 121 (0,0))).cell? ⟨wa.heap.size,1,none⟩=some (.slice none 0 0):=aac pz rfl;have pg0:=abq 0 pz;have pg1:=abq 1 pz;clear az pz;have pb0:wb.cell? ⟨w.heap.size,0,none⟩=some (.int .i64 n):=aac b1 rfl;have pb1:wb.cell? ⟨w.heap.size,1,none⟩=some (.slice fa L ca):=aac b1 rfl;have pc0:wb.cell? ⟨w.heap.size+1+1,0,none⟩=some (.int .i64 0):=aac b3 rfl;have pc1:wb.cell? ⟨w.heap.size+1+1,1,none⟩=some (.slice none 0 0):=aac b3 rfl;have pf0:=abq 0 b3;have pf1:=abq 1 b3;rw [a3,Nat.mul_one,show (Value.int .u64 0).cells=[Value.int .u64 0].toArray from rfl] at oa;rw [b4,Nat.mul_one,show (Value.int .u64 0).cells=[Value.int .u64 0].toArray from rfl] at ob;have HMA:=Lib.hid (aI5 (n:=n) ua a1 a2 oa);have HMB:=Lib.hid (aI6 (n:=n) ub b1 b2 b3 ob);clear ua a1 a2 a3 ub b1 b2 b3 b4;clear oa ga ob gb;go_wp2_with fail
 go_region
 focus (
  have HM:=Lib.hid HMA.out;generalize wa.heap.size=B at HM;generalize w.heap.size+1+1=g at HM
  generalize (wa.alloc (.cells #[.int .i64 n,.slice (some ⟨g,0,none⟩) L L] 121 (0,0)))=W0 at HM)
 rotate_left
 focus (
  have HM:=Lib.hid HMB.out;generalize w.heap.size+1+1+1=g at HM;generalize w.heap.size+1+1=B at HM
  generalize ((wb.setCell ⟨B,0,none⟩ (.int .i64 n)).setCell ⟨B,1,none⟩ (.slice (some ⟨g,0,none⟩) L L))=W0 at HM)
 all_goals (
  clear HMA HMB pa0 pa1 pb0 pb1 pc0 pc1 pd0 pd1 pe0 pe1 pf0 pf1 pg0 pg1 ra rb q0 q1 HBX HRS
  have hd6:decide ((6:Int)<=(v:Int))=true:=by simp;omega
  obtain ⟨u,hu⟩ : ∃ u,v=u+6:=⟨v-6,by omega⟩
  have hvu:(v:Int)-6=(u:Int):=by omega
  have HVU:=Lib.hid hu
  have aBY:u<=9:=by omega
  have aE7:(u:Int)<64:=by omega
  obtain ⟨s,hs⟩ : ∃ s,2 ^ u=s:=⟨_,rfl⟩
  have hs1:1<=s/\s<=512:=by
   subst hs;refine ⟨Nat.two_pow_pos _,?_⟩
   calc 2 ^ u<=2 ^ 9:=Nat.pow_le_pow_right (by omega) aBY
    _=512:=rfl
  have hsh:IntKind.i64.wrap (2 ^ u)=(s:Int):=by
   have h2:((2:Int) ^ u)=((2 ^ u:Nat):Int):=by push_cast;rfl
   rw [h2,hs];exact IntWalk.i64_in _ (by omega)
  have hs0:¬ ((s:Int)=0):=by omega
  have HIX:Hid (∀ x:Nat,x<L->∃ Q R P J0:Nat,wrap64 ((x:Int)/(s:Int))=(Q:Int)/\(Q:Int).tmod 2=(R:Int)/\wrap64 ((R:Int)*(s:Int))=(P:Int)/\wrap64 ((x:Int)-(P:Int))=(J0:Int)/\wrap64 ((J0:Int)+(s:Int))=((af7 x (v-6) true:Nat):Int)/\af7 x (v-6) false=J0):=fun x hx=>by
   rw [show v-6=u by have:=HVU.out;omega];exact aMe hs (by omega) (by omega)
  have HLT:Hid (∀ x,x<L->af7 x (v-6) b<L):=fun x hx=>by
   have hw:=aoT (n:=t.n) (by rw [HN.out.2];omega);have hlen:=HT.out.ok.len
   have hp:(2:Nat) ^ t.n=2 ^ (t.n-6)*64:=by
    have:t.n=(t.n-6)+6:=by rw [HN.out.2];omega
    conv=>lhs;rw [this,Nat.pow_add]
   have hwp:L=2 ^ (t.n-6):=by have:=HN.out.1;omega
   rw [hwp] at hx ⊢;exact aBZ b hx (by rw [HN.out.2];omega)
  have HF0:Hid (aix (fun i=>t.ws.getD (af7 i (v-6) b) 0) L 0=List.replicate L 0):=ayn _ _;clear hs hu;go_wp2_with fail
  go_loopg [9] L (fun gg s9 wr=>∃ x:Nat,L-x=gg/\x<=L/\s9=.int .i64 x/\azO w n L g B (.slice fa L ca) (aix (fun i=>t.ws.getD (af7 i (v-6) b) 0) L x) wr)
  case atStart=>exact ⟨0,by omega,by omega,rfl,by rw [HF0.out];exact HM.out⟩
  case round =>
   obtain ⟨x,rfl,hx,rfl,hM⟩:=hrel;have t1:wr.cell? ⟨w.heap.size,1,none⟩=some (.slice fa L ca):=aac (j:=1) hM.tb rfl;have s0:wr.cell? ⟨B,0,none⟩=some (.int .i64 n):=aac (j:=0) hM.bx rfl;have s1:wr.cell? ⟨B,1,none⟩=some (.slice (some ⟨g,0,none⟩) L L):=aac (j:=1) hM.bx rfl
   by_cases hlt:x<L
   ·have hil:(x:Int)<(L:Int):=by omega
    obtain ⟨ga,rfl⟩:=aep.out.some_ (by omega)
    have hr:=aep.out.kp fun k hk=>hM.up.block k (aep.out.lt k hk).2 (by simp)
    obtain ⟨J,hJ⟩ : ∃ J,af7 x (v-6) b=J:=⟨_,rfl⟩
    have hJL:J<L:=by rw [<- hJ];exact HLT.out x hlt
    have hJi:(J:Int)<(L:Int):=by omega
    obtain ⟨X,hX⟩ : ∃ X,t.ws.getD J 0=X:=⟨_,rfl⟩
    have e0:t.ws[J]?=some X:=by rw [<- hX,List.getD_eq_getElem?_getD,List.getElem?_eq_getElem (by rw [HN.out.1];exact hJL)];rfl
    have cx:wr.cell? (ga.add J)=some (.int .u64 X):=hr.cells _ _ _ rfl J _ (by rw [aff,List.getElem?_map,e0];rfl);obtain ⟨Y,hY⟩ : ∃ Y,(aix (fun i=>t.ws.getD (af7 i (v-6) b) 0) L x).getD x 0=Y:=⟨_,rfl⟩
    have e1:(aix (fun i=>t.ws.getD (af7 i (v-6) b) 0) L x)[x]?=some Y:=by rw [<- hY,List.getD_eq_getElem?_getD,List.getElem?_eq_getElem (by rw [avp];exact hlt)];rfl
    have cy:wr.cell? ⟨g,x,none⟩=some (.int .u64 Y):=abf hM.row (by rw [aff,List.getElem?_map,e1];rfl);have fy:=aci hM.row x;have aoV:=hM.set hlt X
    have hpx:X=(fun i=>t.ws.getD (af7 i (v-6) b) 0) x:=by show X=t.ws.getD (af7 x (v-6) b) 0;rw [hJ,hX]
    rw [hpx,aA0 (fun i=>t.ws.getD (af7 i (v-6) b) 0) hlt,<- hpx] at aoV;have HE:=Lib.hid aoV;obtain ⟨Q,R,P,J0,hq,hr2,hm,hd,ha,hj⟩:=HIX.out x hlt;clear hM aoV hr e0 e1 hX hY hpx
    cases b with
    | true =>
     rw [hJ] at ha;clear hj hJ;go_wp2_with fail
     go_region
     go_wp2_with fail
     go_roundg (L-(x+1))
     case measure=>omega
     case rel=>exact ⟨x+1,rfl,by omega,by simp,HE.out.upd ((Upd.refl [] _).drew)⟩
    | false =>
     obtain rfl:=hj.symm.trans hJ;clear hj ha;go_wp2_with fail
     go_region
     go_wp2_with fail
     go_roundg (L-(x+1))
     case measure=>omega
     case rel=>exact ⟨x+1,rfl,by omega,by simp,HE.out.upd ((Upd.refl [] _).drew)⟩
   ·obtain rfl:x=L:=by omega
    have hil:¬ ((x:Int)<(x:Int)):=by omega
    have z0:wr.cell? ⟨w.heap.size+1,0,none⟩=some (.int .i64 0):=aac (j:=0) hM.rs rfl;have z1:wr.cell? ⟨w.heap.size+1,1,none⟩=some (.slice none 0 0):=aac (j:=1) hM.rs rfl;have f0:=abq 0 hM.rs;have f1:=abq 1 hM.rs;have HM4:=Lib.hid hM;clear hM;go_wp2_with fail;obtain ⟨b0,b1⟩:=aG5 HM4.out.rs (.int .i64 n) (.slice (some ⟨g,0,none⟩) x x);refine bodyPost_ret (v:=.agg #[.int .i64 n,.slice (some ⟨g,0,none⟩) x x]) (by simp [results,Tryz.results116,go_sem,b0,b1]) rfl ?_;have aOX:=aOY HT.out.ok hv6 (by rw [HN.out.2];exact hv) b;have aOZ:=aE6 (fun i=>t.ws.getD (af7 i (v-6) b) 0) HN.out.1;have abP:=HM4.out.row;rw [aOZ] at abP
    have ar6:wr.ownsRow w.heap.size 90 1 (.slice (some ⟨g,0,none⟩) x x) (aee t v b).ws.length (aff (aee t v b).ws):=by
     rw [aOX];have el:=aG4 (fun i=>t.ws.getD (af7 i (v-6) b) 0) HN.out.1
     show wr.ownsRow _ _ _ _ ((List.range t.ws.length).map fun i=>t.ws.getD (af7 i (v-6) b) 0).length _
     rw [el];exact abP
    have hu:=(HM4.out.up.setCell (p:=⟨w.heap.size+1,0,none⟩) (.inr (by show w.heap.size<=w.heap.size+1;omega)) (.int .i64 n)).setCell (p:=⟨w.heap.size+1,1,none⟩) (.inr (by show w.heap.size<=w.heap.size+1;omega)) (.slice (some ⟨g,0,none⟩) x x);have hg2:=HM4.out.ne.2.1;have r1:=ac9 ar6 (a:=⟨w.heap.size+1,0,none⟩) (by simpa [Value.ownBlock] using Ne.symm hg2) (.int .i64 n);have r2:=ac9 r1 (a:=⟨w.heap.size+1,1,none⟩) (by simpa [Value.ownBlock] using Ne.symm hg2) (.slice (some ⟨g,0,none⟩) x x)
    exact ⟨_,by simp only [aeH];rw [show (aee t v b).n=n from HN.out.2],⟨aoW HT.out.ok v b,r2⟩,hu⟩)
theorem atV (Z:List Nat) (c:Value) (t:TV) (v:Nat) (b:Bool) (w:World) (h:TIn w Z c t) (hv:v<t.n) :
  Calls Tryz.prog 116 #[aeH t c,.int .i64 v,.bool b] w fun e w'=>aC7 (aee t v b) w e w':=by
 by_cases h6:v<6
 ·exact aG6 Z c t v b w h hv h6
 ·exact aMf Z c t v b w h hv (by omega)
theorem aer {w w':World} {B:Nat} {x y:Value} (u:Upd [] w w') (h:w.cell? ⟨B,0,none⟩=some x/\w.cell? ⟨B,1,none⟩=some y):w'.cell? ⟨B,0,none⟩=some x/\w'.cell? ⟨B,1,none⟩=some y :=
 ⟨(u.cell (World.block_lt_of_cell? _ _ h.1) (by simp)).trans h.1,(u.cell (World.block_lt_of_cell? _ _ h.2) (by simp)).trans h.2⟩
theorem atW (Z:List Nat) (c:Value) (t:TV) (v:Nat) (w:World) (h:TIn w Z c t) (hZ:∀ k,k∈Z->k<w.heap.size) (hv:v<t.n) (_hv6:v<64) :
  Calls Tryz.prog 114 #[aeH t c,.int .i64 v] w fun e w'=>e=.returned (.bool (anJ t v))/\Upd [] w w':=by
 obtain ⟨fa,ca,hca,_⟩:=ahV h.row;subst hca
 have HX:Hid (∀ x:World,Upd [] w x->TIn x Z (.slice fa t.ws.length ca) t):=fun x u=>h.keep0 u
 have HZ:Hid (∀ x:World,Upd [] w x->∀ k,k∈Z->k<x.heap.size):=fun x u k hk=>Nat.lt_of_lt_of_le (hZ k hk) u.size
 have HU0:=Lib.hid ((Upd.refl [] w).alloc (.cells #[.int .i64 t.n,.slice fa t.ws.length ca] 121 (0,0)));have hb:=alC w (.int .i64 t.n) (.slice fa t.ws.length ca);have HD:Hid (anJ t v=!decide (aee t v false=aee t v true)):=rfl;unfold aeH;generalize hL:t.ws.length=L at *;generalize hn:t.n=n at *;have HN:=Lib.hid (And.intro hL hn);have HV:=Lib.hid hv;obtain ⟨b0,b1⟩:=hb;clear h hZ hL hn hv
 go_enter Tryz.func114,Tryz.ntmps114
 go_wp2_with fail;have HS:Hid (Upd [] w (w.alloc (.cells #[.int .i64 n,.slice fa L ca] 121 (0,0))).drew):=HU0.out.drew
 go_region_held3 (fun w'=>w'.cell? ⟨w.heap.size,0,none⟩=some (.int .i64 n)/\w'.cell? ⟨w.heap.size,1,none⟩=some (.slice fa L ca)) (first | exact ⟨b0,b1⟩ | exact aer HF.out.2 ⟨b0,b1⟩ | exact aer (HF.out.2.trans HT.out.2) ⟨b0,b1⟩ | exact aer ((HF.out.2.trans HT.out.2).trans HS2.out) ⟨b0,b1⟩) (first | (go_at_call_of 116 (Value.bool false);rw [<- HN.out.2] at *;refine (atV Z (.slice fa L ca) t v false _ (HX.out _ HS.out) HV.out).mono ?_;rintro e w3 hE;obtain ⟨cf,rfl,hT,hu⟩:=hE.ex;have HF:=Lib.hid (And.intro hT hu);clear hE hT hu) | (go_at_call_of 116 (Value.bool true);refine (atV Z (.slice fa L ca) t v true _ (HX.out _ (HS.out.trans HF.out.2)) HV.out).mono ?_;rintro e w4 hE;obtain ⟨ct,rfl,hT,hu⟩:=hE.ex;have HT:=Lib.hid (And.intro hT hu);clear hE hT hu) | (go_at_call 122;refine (ajX Z _ _ _ _ _ (((HF.out.1.keep HT.out.2).base HS.out.size).tin (HZ.out w (Upd.refl _ _))) ((HT.out.1.base (HS.out.trans HF.out.2).size).tin (HZ.out w (Upd.refl _ _)))).mono ?_;rintro e w5 ⟨rfl,hu⟩;have HS2:=Lib.hid hu;clear hu))
 go_wp2_with fail;go_ret;exact ⟨by rw [HD.out];rfl,((HS.out.trans HF.out.2).trans HT.out.2).trans HS2.out⟩
theorem Tryz.infoTable:(Tryz.prog.info? 121).map (fun i=>(i.zero,i.size,i.bytes))=some (some (.agg #[.int .i64 0,.slice none 0 0]),2,32):=by kernel_rfl
def agp (L:List TV) (cs:List Value):List Value:=(L.zip cs).flatMap fun p=>[Value.int .i64 p.1.n,p.2]
structure TLs (w:World) (n0:Nat) (Z:List Nat) (v:Value) (L:List TV):Prop where
 ex:∃ cs:List Value,cs.length=L.length/\w.ownsRow n0 121 2 v L.length (agp L cs)/\∀ (i:Nat) (t:TV) (c:Value),L[i]?=some t->cs[i]?=some c->TIn w Z c t
 fr:∀ k,v.ownBlock=some k->k∉Z
theorem TLs.row {w:World} {n0:Nat} {Z:List Nat} {v:Value} {L:List TV} (h:TLs w n0 Z v L):∃ xs,w.ownsRow n0 121 2 v L.length xs:=by
 obtain ⟨cs,_,hr,_⟩:=h.ex;exact ⟨_,hr⟩
theorem TLs.keep {w w':World} {n0:Nat} {Z S:List Nat} {v:Value} {L:List TV} (h:TLs w n0 Z v L) (u:Upd S w w') (hS:∀ k,k∈S->k∈Z\/w.heap.size<=k):TLs w' n0 Z v L:=by
 obtain ⟨cs,h1,h2,h3⟩:=h.ex;refine ⟨⟨cs,h1,aaX h2 fun k hk=>u.block k (h2.lt k hk).2 fun hm=>?_,fun i t c ht hc=>(h3 i t c ht hc).keep u hS⟩,h.fr⟩
 rcases hS k hm with h4 | h4
 ·exact h.fr k hk h4
 ·have:=(h2.lt k hk).2;omega
theorem TLs.keep0 {w w':World} {n0:Nat} {Z:List Nat} {v:Value} {L:List TV} (h:TLs w n0 Z v L) (u:Upd [] w w'):TLs w' n0 Z v L:=h.keep u (by simp)
theorem TLs.apart {w:World} {n0:Nat} {Z Z':List Nat} {v:Value} {L:List TV} (h:TLs w n0 Z v L) (hs:Sub Z w Z') (h0:∃ z,z∈Z':=by first | assumption | exact ⟨_,List.mem_append.2 (.inr (acd.mem.2 (.inl rfl)))⟩ | exact ⟨_,List.mem_append.2 (.inl (acd.mem.2 (.inl rfl)))⟩ | exact ⟨_,List.mem_append.2 (.inr (List.mem_append.2 (.inr (acd.mem.2 (.inl rfl)))))⟩ | (simp [acd.all,exists_or];done)):TLs w n0 Z' v L:=by
 obtain ⟨cs,h1,h2,h3⟩:=h.ex
 exact ⟨⟨cs,h1,h2,fun i t c ht hc=>(h3 i t c ht hc).apart hs h0⟩,fun k hk hm=>by
  rcases hs k hm with h4 | h4
  ·exact h.fr k hk h4
  ·have:=(h2.lt k hk).2;omega⟩
theorem TLs.base {w:World} {n0 n1:Nat} {Z:List Nat} {v:Value} {L:List TV} (h:TLs w n0 Z v L) (hn:n1<=n0):TLs w n1 Z v L:=by
 obtain ⟨cs,h1,h2,h3⟩:=h.ex;exact ⟨⟨cs,h1,aet h2 hn,h3⟩,h.fr⟩
theorem TLs.nil (w:World) (n0:Nat) (Z:List Nat):TLs w n0 Z (.slice none 0 0) []:=⟨⟨[],rfl,World.ownsRow_nil _ _ _ _,fun i t c h=>by simp at h⟩,fun k hk=>by simp [Value.ownBlock] at hk⟩
theorem aE9 {L:List TV} {cs:List Value} (hl:cs.length=L.length) {i:Nat} {t:TV} {c:Value} (ht:L[i]?=some t) (hc:cs[i]?=some c):(agp L cs)[i*2]?=some (.int .i64 t.n)/\(agp L cs)[i*2+1]?=some c:=by
 induction L generalizing cs i with
 | nil=>simp at ht
 | cons a L ih =>
  cases cs with
  | nil=>simp at hl
  | cons d cs =>
   have hl':cs.length=L.length:=by simpa using hl
   have e:agp (a::L) (d::cs)=Value.int .i64 a.n::d::agp L cs:=rfl
   cases i with
   | zero=>simp at ht hc;subst ht hc;rw [e];exact ⟨rfl,rfl⟩
   | succ i =>
    simp at ht hc
    obtain ⟨h1,h2⟩:=ih hl' ht hc;rw [e]
    have e1:(i+1)*2=i*2+1+1:=by omega
    have e2:(i+1)*2+1=i*2+1+1+1:=by omega
    rw [e1,List.getElem?_cons_succ,List.getElem?_cons_succ,List.getElem?_cons_succ,List.getElem?_cons_succ];exact ⟨h1,h2⟩
theorem av4 {L:List TV} {cs:List Value} (hl:cs.length=L.length) (t:TV) (c:Value):agp (L++[t]) (cs++[c])=agp L cs++[Value.int .i64 t.n,c]:=by
 unfold agp
 rw [List.zip_append hl.symm,List.flatMap_append];rfl
theorem TLs.at_ {w:World} {n0 n' cp g:Nat} {Z:List Nat} {L:List TV} (h:TLs w n0 Z (.slice (some ⟨g,0,none⟩) n' cp) L) {i:Nat} {t:TV} (ht:L[i]?=some t) :
  ∃ c,w.cell? ⟨g,i*2,none⟩=some (.int .i64 t.n)/\w.cell? ⟨g,i*2+1,none⟩=some c/\TIn w Z c t:=by
 obtain ⟨cs,h1,h2,h3⟩:=h.ex
 have hil:i<L.length:=by
  by_cases e:i<L.length
  ·exact e
  ·rw [List.getElem?_eq_none (by omega)] at ht;cases ht
 have hc:cs[i]?=some (cs[i]'(by omega)):=List.getElem?_eq_getElem (by omega);obtain ⟨e1,e2⟩:=aE9 h1 ht hc;exact ⟨_,abf h2 e1,abf h2 e2,h3 i t _ ht hc⟩
theorem TLs.form {w:World} {n0:Nat} {Z:List Nat} {v:Value} {L:List TV} (h:TLs w n0 Z v L):∃ (a:Option Addr) (c:Nat),v=.slice a L.length c/\(0<L.length->∃ g,a=some ⟨g,0,none⟩):=by
 obtain ⟨xs,hr⟩:=h.row;obtain ⟨a,c,hv,hh⟩:=abI hr;refine ⟨a,c,hv,fun hp=>?_⟩
 rcases hh with ⟨_,h0,_⟩ | hh
 ·omega
 ·exact hh
theorem aB0 (n0:Nat) (Z:List Nat) (v:Value) (L:List TV) (c:Value) (t:TV) (w:World) (h:TLs w n0 Z v L) (ht:TIn w Z c t) (hl:L.length<=1099511627776) :
  Calls Tryz.prog 99 #[v,aeH t c] w fun e w'=>e=.returned (.bool (decide (t∈L)))/\Upd [] w w':=by
 obtain ⟨fa,fc,rfl,hfa⟩:=h.form;obtain ⟨ta,tc,hca,_⟩:=ahV ht.row;subst hca;have HL:=Lib.hid h;have HT:=Lib.hid ht;unfold aeH;generalize hW:t.ws.length=W at *;generalize hn:t.n=n at *;have hbx:=alC w (.int .i64 n) (.slice ta W tc);have HN:=Lib.hid (And.intro hW hn);have HU0:=Lib.hid ((Upd.refl [] w).alloc (.cells #[.int .i64 n,.slice ta W tc] 121 (0,0)));obtain ⟨b0,b1⟩:=hbx;clear h ht hW hn
 go_enter Tryz.func99,Tryz.ntmps99
 go_wp2_with fail
 go_loopg [9] L.length (fun g s9 wr=>∃ i:Nat,L.length-i=g/\i<=L.length/\s9=.int .i64 i/\t∉L.take i/\Upd [] (w.alloc (.cells #[.int .i64 n,.slice ta W tc] 121 (0,0))) wr)
 case atStart=>exact ⟨0,by omega,by omega,rfl,by simp,Upd.refl _ _⟩
 case round =>
  obtain ⟨i,rfl,hi,rfl,hno,hU⟩:=hrel
  by_cases hlt:i<L.length
  ·obtain ⟨u,hu⟩ : ∃ u,L[i]?=some u:=⟨_,List.getElem?_eq_getElem hlt⟩
   obtain ⟨ga,rfl⟩:=hfa (by omega);have HUr:=Lib.hid (HU0.out.trans hU);obtain ⟨cu,x0,x1,htu⟩:=(HL.out.keep0 HUr.out).at_ hu;obtain ⟨ua,uc,hcu,_⟩:=ahV htu.row;subst hcu;obtain ⟨y0,y1⟩:=aer (hU.alloc (.cells #[.int .i64 u.n,.slice ua u.ws.length uc] 121 (0,0))) ⟨b0,b1⟩;obtain ⟨z0,z1⟩:=alC wr (.int .i64 u.n) (.slice ua u.ws.length uc)
   have hil:(i:Int)<(L.length:Int):=by omega
   have HSM:=Lib.hid (ajX Z (.slice ta W tc) (.slice ua u.ws.length uc) t u (wr.alloc (.cells #[.int .i64 u.n,.slice ua u.ws.length uc] 121 (0,0))) ((HT.out.keep0 HUr.out).keep0 ((Upd.refl [] wr).alloc _)) (htu.keep0 ((Upd.refl [] wr).alloc _)));have HNO:=Lib.hid (And.intro hno hU);have HUU:=Lib.hid hu;unfold aeH at HSM;rw [HN.out.2] at HSM;generalize u.ws.length=UW at *;generalize u.n=un at *;clear htu hno hU hu b0 b1;go_wp2_with fail;refine HSM.out.mono ?_;rintro e w3 ⟨rfl,hu3⟩;have HU3:=Lib.hid ((HNO.out.2.alloc (.cells #[.int .i64 un,.slice ua UW uc] 121 (0,0))).trans hu3);clear hu3 HSM x0 x1 y0 y1 z0 z1
   by_cases e:t=u
   ·have HD:Hid (t∈L):=by rw [e];exact List.mem_of_getElem? HUU.out
    rw [decide_eq_true e];clear e;go_wp2_with fail;go_ret;exact ⟨by rw [decide_eq_true HD.out];rfl,HU0.out.trans HU3.out⟩
   ·have HD:Hid (t∉L.take (i+1)):=by
     show t∉_
     rw [List.take_add_one,HUU.out]
     simp only [Option.toList_some,List.mem_append,List.mem_singleton,not_or]
     exact ⟨HNO.out.1,e⟩
    rw [decide_eq_false e];clear e;go_wp2_with fail
    go_roundg (L.length-(i+1))
    case measure=>omega
    case rel=>exact ⟨i+1,rfl,by omega,by simp,HD.out,HU3.out⟩
  ·obtain rfl:i=L.length:=by omega
   have hil:¬ ((L.length:Int)<(L.length:Int)):=by omega
   have HD:Hid (decide (t∈L)=false/\Upd [] w wr):=⟨decide_eq_false (by rw [List.take_length] at hno;exact hno),HU0.out.trans hU⟩;clear hno hU;go_wp2_with fail;go_ret;exact ⟨by rw [HD.out.1];rfl,HD.out.2⟩
def addT (l:List TV) (t:TV):List TV:=if t∈l then l else l++[t]
def acw (L:List TV):List TV:=L.foldl addT []
def ae8 (L:List TV) (v:Nat):List TV:=L.filter fun t=>anJ t v
def adG (L:List TV) (v:Nat):List TV:=L.foldl (fun l t=>addT (addT l (aee t v false)) (aee t v true)) []
theorem atX (l:List TV) (t:TV):(addT l t).length<=l.length+1:=by unfold addT;split <;> simp
theorem ag8 (L:List TV):(acw L).length<=L.length:=by
 have key:∀ (L l:List TV),(L.foldl addT l).length<=l.length+L.length:=by
  intro L
  induction L with
  | nil=>intro l;simp
  | cons a L ih=>intro l;have:=ih (addT l a);have:=atX l a;simp only [List.foldl_cons,List.length_cons];omega
 have:=key L [];unfold acw
 simpa using this
theorem TLs.push {w w5:World} {n0 g5 cap:Nat} {Z:List Nat} {v c:Value} {L:List TV} {t:TV} {X:Obj} (h:TLs w n0 Z v L) (ht:TIn w Z c t) (_hn:n0<=w.heap.size) (hZ:∀ k,k∈Z->k<n0)
  (hgr:(w.alloc X).grownBy w5 v.ownBlock) {xs:List Value} (abP:w.ownsRow n0 121 2 v L.length xs) (ab3:w5.ownsRow n0 121 2 (.slice (some ⟨g5,0,none⟩) (L.length+1) cap) (L.length+1) (xs++[.int .i64 t.n,c])) :
  TLs w5 n0 Z (.slice (some ⟨g5,0,none⟩) (L.length+1) cap) (L++[t])/\(∀ S,(∀ k,v.ownBlock=some k->k∈S\/w.heap.size<=k)->Upd S w w5):=by
 obtain ⟨cs,h1,h2,h3⟩:=h.ex
 obtain rfl:xs=agp L cs:=by
  obtain ⟨e1,c1⟩:=abP;obtain ⟨e2,c2⟩:=h2
  rcases c1 with ⟨rfl,h0⟩ | ⟨g,anz,aMi,rfl,hg,hh,_,_,_,k1⟩
  ·rcases c2 with ⟨_,_⟩ | ⟨g,aiP,cur2,e,_⟩
   ·have a1:xs.length=0:=by rw [e1,h0]
    have a2:(agp L cs).length=0:=by rw [e2,h0]
    rw [List.length_eq_zero_iff.1 a1,List.length_eq_zero_iff.1 a2]
   ·simp at e
  ·rcases c2 with ⟨e,_⟩ | ⟨g',aiP,cur2,e,hg',hh',_,_,_,k2⟩
   ·simp at e
   ·simp at e
    obtain ⟨rfl,_⟩:=e
    rw [hh] at hh';cases hh'
    rw [<- k1,<- k2]
 have hu:∀ S,(∀ k,v.ownBlock=some k->k∈S\/w.heap.size<=k)->Upd S w w5:=fun S hS=>((Upd.refl S w).alloc X).grown hgr hS
 refine ⟨⟨⟨cs++[c],by simp [h1],?_,fun i u d hu' hd=>?_⟩,fun k hk hm=>?_⟩,hu⟩
 ·rw [av4 h1,List.length_append,List.length_singleton];exact ab3
 ·have hS:=hu (v.ownBlock.toList) (fun k hk=>.inl (by simp [hk]))
  have keep:∀ {u:TV} {d:Value},TIn w Z d u->TIn w5 Z d u:=fun {u d} hd=>⟨hd.ok,hd.row.kp fun k hk=>hS.block k (hd.row.lt k hk).2 fun hm=>by
   simp at hm
   obtain ⟨_,(⟨e,_⟩ | ⟨g,anz,aMi,e,hg,hh,_⟩)⟩:=h2
   ·rw [e] at hm;simp [Value.ownBlock] at hm
   ·rw [e] at hm
    simp [Value.ownBlock] at hm
    subst hm
    exact hd.nb hh (by decide) (fun ⟨z,hz⟩=>⟨z,hz,by have:=hZ z hz;omega⟩) hk,hd.fr⟩
  by_cases hi:i<L.length
  ·rw [List.getElem?_append_left hi] at hu'
   rw [List.getElem?_append_left (by omega)] at hd;exact keep (h3 i u d hu' hd)
  ·rw [List.getElem?_append_right (by omega)] at hu'
   rw [List.getElem?_append_right (by omega),h1] at hd
   cases e:i-L.length with
   | zero=>rw [e] at hu' hd;simp at hu' hd;subst hu' hd;exact keep ht
   | succ j=>rw [e] at hu';simp at hu'
 ·have h4:=(ab3.lt k hk).1
  have h5:=hZ k hm;omega
theorem ayp {l:List TV} {t:TV} (h:t∈l):addT l t=l:=by unfold addT;rw [if_pos h]
theorem aB1 {l:List TV} {t:TV} (h:t∉l):addT l t=l++[t]:=by unfold addT;rw [if_neg h]
theorem aB2 (L:List TV) (t:TV):acw (L++[t])=addT (acw L) t:=by unfold acw;rw [List.foldl_append];rfl
theorem aC9 (L:List TV) (t:TV) (v:Nat):ae8 (L++[t]) v=ae8 L v++(if anJ t v then [t] else []):=by
 unfold ae8;rw [List.filter_append];congr 1
 by_cases h:anJ t v=true
 ·simp [h]
 ·simp [h]
structure TLQ (Z:List Nat) (L:List TV) (w:World) (e:Ending) (w':World):Prop where
 ex:∃ v:Value,e=.returned v/\TLs w' w.heap.size Z v L/\Upd [] w w'
theorem av5 (n0:Nat) (Z:List Nat) (v:Value) (L:List TV) (w:World) (h:TLs w n0 Z v L) (hZ:∀ k,k∈Z->k<w.heap.size) (hl:L.length<=1073741824) :
  Calls Tryz.prog 133 #[v] w fun e w'=>TLQ Z (acw L) w e w':=by
 obtain ⟨ti,hi2,hz2,hs2,hb2⟩:=info_parts Tryz.infoTable;have HI:=Lib.hid (And.intro hi2 (And.intro hz2 (And.intro hs2 hb2)));obtain ⟨fa,fc,rfl,hfa⟩:=h.form;have HL:=Lib.hid h;have HZ:=Lib.hid hZ;clear h hZ hi2 hz2 hs2 hb2
 go_enter Tryz.func133,Tryz.ntmps133
 go_wp2_with fail
 go_loopg [3,8] L.length (fun g s3 s8 wr=>∃ i:Nat,L.length-i=g/\i<=L.length/\s8=.int .i64 i/\TLs wr w.heap.size Z s3 (acw (L.take i))/\Upd [] w wr)
 case atStart=>exact ⟨0,by omega,by omega,rfl,by simpa [acw] using TLs.nil w w.heap.size Z,Upd.refl _ _⟩
 case round =>
  obtain ⟨i,rfl,hi,rfl,hT,hU⟩:=hrel
  by_cases hlt:i<L.length
  ·obtain ⟨u,hu⟩ : ∃ u,L[i]?=some u:=⟨_,List.getElem?_eq_getElem hlt⟩
   obtain ⟨ga,rfl⟩:=hfa (by omega);obtain ⟨cu,x0,x1,htu⟩:=(HL.out.keep0 hU).at_ hu;obtain ⟨ua,uc,hcu,_⟩:=ahV htu.row;subst hcu;obtain ⟨oa,oc,hov,_⟩:=hT.form;subst hov
   have hil:(i:Int)<(L.length:Int):=by omega
   have hul:(acw (L.take i)).length<=1073741824:=by
    have:=ag8 (L.take i)
    rw [List.length_take] at this;omega
   have HS:Hid (acw (L.take (i+1))=addT (acw (L.take i)) u):=by
    show _=_
    rw [List.take_add_one,hu];exact aB2 _ _
   generalize acw (L.take i)=UL at *;obtain ⟨z0,z1⟩:=alC wr (.int .i64 u.n) (.slice ua u.ws.length uc);have hUB:=(Upd.refl [] wr).alloc (.cells #[.int .i64 u.n,.slice ua u.ws.length uc] 121 (0,0));have HIN:=Lib.hid (aB0 w.heap.size Z (.slice oa UL.length oc) UL (.slice ua u.ws.length uc) u (wr.alloc (.cells #[.int .i64 u.n,.slice ua u.ws.length uc] 121 (0,0))) (hT.keep0 hUB) (htu.keep0 hUB) (by omega));have HTU:=Lib.hid (And.intro (hT.keep0 hUB) (And.intro (htu.keep0 hUB) (hU.trans hUB)));have HB:Hid ((wr.alloc (.cells #[.int .i64 u.n,.slice ua u.ws.length uc] 121 (0,0))).cell? ⟨wr.heap.size,0,none⟩=some (.int .i64 u.n)/\(wr.alloc (.cells #[.int .i64 u.n,.slice ua u.ws.length uc] 121 (0,0))).cell? ⟨wr.heap.size,1,none⟩=some (.slice ua u.ws.length uc)):=⟨z0,z1⟩;unfold aeH at HIN;generalize hUW:u.ws.length=UW at *;generalize hun:u.n=un at *;have HUN:=Lib.hid (And.intro hUW hun);clear htu hT hU hu hUB hUW hun;go_wp2_with fail;refine HIN.out.mono ?_;rintro e w3 ⟨rfl,hu3⟩;obtain ⟨y0,y1⟩:=aer hu3 HB.out;have HT3:=Lib.hid (And.intro (HTU.out.1.keep0 hu3) (And.intro (HTU.out.2.1.keep0 hu3) (HTU.out.2.2.trans hu3)));clear hu3 HIN HTU HB x0 x1 z0 z1
   by_cases e:u∈UL
   ·rw [decide_eq_true e]
    have HN:Hid (acw (L.take (i+1))=UL):=by rw [HS.out,ayp e];exact rfl
    clear e HS;go_wp2_with fail
    go_roundg (L.length-(i+1))
    case measure=>omega
    case rel=>exact ⟨i+1,rfl,by omega,by simp,by rw [HN.out];exact HT3.out.1,HT3.out.2.2⟩
   ·rw [decide_eq_false e]
    have HN:Hid (acw (L.take (i+1))=UL++[u]):=by rw [HS.out,aB1 e];exact rfl
    obtain ⟨xs,abP⟩:=HT3.out.1.row;have aep:=Lib.hid abP
    have HC2:Hid (∀ z,z∈[Value.int .i64 un,Value.slice ua UW uc]->z.oneCell'=true):=by
     intro z hz;simp at hz;rcases hz with rfl | rfl <;> rfl
    have aB4:=HT3.out.2.2.size
    have hbs:w.heap.size<=(w3.alloc (.cells #[.int .i64 un,.slice ua UW uc] 121 (0,0))).heap.size:=by rw [World.size_alloc];omega
    clear e HS abP
    go_wp2_with (at_builtin;go_must (refine wpList_append_lies _ rfl (.tmp 16) (.tmp 18) 22 rfl w.heap.size 121 ti _ 2 32 Tryz.underlying22 HI.out.1 HI.out.2.1 HI.out.2.2.1 HI.out.2.2.2 (by rfl) (by decide) _ UL.length xs rfl (aep.out.alloc _) ⟨w3.heap.size,0,none⟩ 1 1 [.int .i64 un,.slice ua UW uc] rfl rfl ?c1 HC2.out (by omega) (by unfold maxLen;omega) (by omega) hbs _ rfl ?_))
    case c1=>exact World.news_of_block (heap_alloc_new w3 (.cells #[.int .i64 un,.slice ua UW uc] 121 (0,0)))
    intro g5 cap w5 ab3 hgr hat ajb
    have HE:Hid (TLs w5 w.heap.size Z (.slice (some ⟨g5,0,none⟩) (UL.length+1) cap) (UL++[u])/\Upd [] w w5):=by
     have hp:=HT3.out.1.push HT3.out.2.1 (by omega) HZ.out hgr aep.out (by rw [HUN.out.2];exact ab3);refine ⟨hp.1,HT3.out.2.2.then (hp.2 (Value.slice oa UL.length oc).ownBlock.toList fun k hk=>.inl (by rw [hk];simp)) fun k hk=>.inr ?_⟩
     have hk':(Value.slice oa UL.length oc).ownBlock=some k:=by simpa using hk
     exact (aep.out.lt k hk').1
    clear ab3 hgr hat ajb;go_wp2_with fail
    go_roundg (L.length-(i+1))
    case measure=>omega
    case rel=>exact ⟨i+1,rfl,by omega,by simp,by rw [HN.out];exact HE.out.1,HE.out.2⟩
  ·obtain rfl:i=L.length:=by omega
   have hil:¬ ((L.length:Int)<(L.length:Int)):=by omega
   have HE:Hid (TLs wr w.heap.size Z _ (acw L)/\Upd [] w wr):=⟨by rw [List.take_length] at hT;exact hT,hU⟩;clear hT hU;go_wp2_with fail;go_ret;exact ⟨_,rfl,HE.out⟩
theorem aFd (n0:Nat) (Z:List Nat) (v:Value) (L:List TV) (x:Nat) (w:World) (h:TLs w n0 Z v L) (hZ:∀ k,k∈Z->k<w.heap.size) (hl:L.length<=1073741824) (hx:∀ t,t∈L->x<t.n) (hx6:x<64) :
  Calls Tryz.prog 178 #[v,.int .i64 x] w fun e w'=>TLQ Z (ae8 L x) w e w':=by
 obtain ⟨ti,hi2,hz2,hs2,hb2⟩:=info_parts Tryz.infoTable;have HI:=Lib.hid (And.intro hi2 (And.intro hz2 (And.intro hs2 hb2)));obtain ⟨fa,fc,rfl,hfa⟩:=h.form;have HL:=Lib.hid h;have HZ:=Lib.hid hZ;have HX:=Lib.hid hx;clear hx;clear h hZ hi2 hz2 hs2 hb2
 go_enter Tryz.func178,Tryz.ntmps178
 go_wp2_with fail
 go_loopg [5,10] L.length (fun g s3 s8 wr=>∃ i:Nat,L.length-i=g/\i<=L.length/\s8=.int .i64 i/\TLs wr w.heap.size Z s3 (ae8 (L.take i) x)/\Upd [] w wr)
 case atStart=>exact ⟨0,by omega,by omega,rfl,by simpa [ae8] using TLs.nil w w.heap.size Z,Upd.refl _ _⟩
 case round =>
  obtain ⟨i,rfl,hi,rfl,hT,hU⟩:=hrel
  by_cases hlt:i<L.length
  ·obtain ⟨u,hu⟩ : ∃ u,L[i]?=some u:=⟨_,List.getElem?_eq_getElem hlt⟩
   obtain ⟨ga,rfl⟩:=hfa (by omega);obtain ⟨cu,x0,x1,htu⟩:=(HL.out.keep0 hU).at_ hu;obtain ⟨ua,uc,hcu,_⟩:=ahV htu.row;subst hcu;obtain ⟨oa,oc,hov,_⟩:=hT.form;subst hov
   have hil:(i:Int)<(L.length:Int):=by omega
   have hul:(ae8 (L.take i) x).length<=1073741824:=by
    have:=List.length_filter_le (fun t=>anJ t x) (L.take i);rw [List.length_take] at this
    show (List.filter _ _).length<=_
    omega
   have HS:Hid (ae8 (L.take (i+1)) x=ae8 (L.take i) x++(if anJ u x then [u] else [])):=by
    show _=_
    rw [List.take_add_one,hu];exact aC9 _ _ _
   generalize ae8 (L.take i) x=UL at *;obtain ⟨z0,z1⟩:=alC wr (.int .i64 u.n) (.slice ua u.ws.length uc);have hUB:=(Upd.refl [] wr).alloc (.cells #[.int .i64 u.n,.slice ua u.ws.length uc] 121 (0,0));have HIN:=Lib.hid (atW Z (.slice ua u.ws.length uc) u x (wr.alloc (.cells #[.int .i64 u.n,.slice ua u.ws.length uc] 121 (0,0))) (htu.keep0 hUB) (fun k hk=>Nat.lt_of_lt_of_le (HZ.out k hk) (hU.trans hUB).size) (HX.out u (List.mem_of_getElem? hu)) hx6);have HTU:=Lib.hid (And.intro (hT.keep0 hUB) (And.intro (htu.keep0 hUB) (hU.trans hUB)));have HB:Hid ((wr.alloc (.cells #[.int .i64 u.n,.slice ua u.ws.length uc] 121 (0,0))).cell? ⟨wr.heap.size,0,none⟩=some (.int .i64 u.n)/\(wr.alloc (.cells #[.int .i64 u.n,.slice ua u.ws.length uc] 121 (0,0))).cell? ⟨wr.heap.size,1,none⟩=some (.slice ua u.ws.length uc)):=⟨z0,z1⟩;unfold aeH at HIN;generalize hUW:u.ws.length=UW at *;generalize hun:u.n=un at *;have HUN:=Lib.hid (And.intro hUW hun);clear htu hT hU hu hUB hUW hun;go_wp2_with fail;refine HIN.out.mono ?_;rintro e w3 ⟨rfl,hu3⟩;obtain ⟨y0,y1⟩:=aer hu3 HB.out;have HT3:=Lib.hid (And.intro (HTU.out.1.keep0 hu3) (And.intro (HTU.out.2.1.keep0 hu3) (HTU.out.2.2.trans hu3)));clear hu3 HIN HTU HB x0 x1 z0 z1
   cases e:anJ u x with
   | false =>
    have HN:Hid (ae8 (L.take (i+1)) x=UL):=by rw [HS.out,e];exact List.append_nil _
    clear e HS;go_wp2_with fail
    go_roundg (L.length-(i+1))
    case measure=>omega
    case rel=>exact ⟨i+1,rfl,by omega,by simp,by rw [HN.out];exact HT3.out.1,HT3.out.2.2⟩
   | true =>
    have HN:Hid (ae8 (L.take (i+1)) x=UL++[u]):=by rw [HS.out,e];exact rfl
    obtain ⟨xs,abP⟩:=HT3.out.1.row;have aep:=Lib.hid abP
    have HC2:Hid (∀ z,z∈[Value.int .i64 un,Value.slice ua UW uc]->z.oneCell'=true):=by
     intro z hz;simp at hz;rcases hz with rfl | rfl <;> rfl
    have aB4:=HT3.out.2.2.size
    have hbs:w.heap.size<=(w3.alloc (.cells #[.int .i64 un,.slice ua UW uc] 121 (0,0))).heap.size:=by rw [World.size_alloc];omega
    clear e HS abP
    go_wp2_with (at_builtin;go_must (refine wpList_append_lies _ rfl (.tmp 17) (.tmp 19) 22 rfl w.heap.size 121 ti _ 2 32 Tryz.underlying22 HI.out.1 HI.out.2.1 HI.out.2.2.1 HI.out.2.2.2 (by rfl) (by decide) _ UL.length xs rfl (aep.out.alloc _) ⟨w3.heap.size,0,none⟩ 1 1 [.int .i64 un,.slice ua UW uc] rfl rfl ?c1 HC2.out (by omega) (by unfold maxLen;omega) (by omega) hbs _ rfl ?_))
    case c1=>exact World.news_of_block (heap_alloc_new w3 (.cells #[.int .i64 un,.slice ua UW uc] 121 (0,0)))
    intro g5 cap w5 ab3 hgr hat ajb
    have HE:Hid (TLs w5 w.heap.size Z (.slice (some ⟨g5,0,none⟩) (UL.length+1) cap) (UL++[u])/\Upd [] w w5):=by
     have hp:=HT3.out.1.push HT3.out.2.1 (by omega) HZ.out hgr aep.out (by rw [HUN.out.2];exact ab3);refine ⟨hp.1,HT3.out.2.2.then (hp.2 (Value.slice oa UL.length oc).ownBlock.toList fun k hk=>.inl (by rw [hk];simp)) fun k hk=>.inr ?_⟩
     have hk':(Value.slice oa UL.length oc).ownBlock=some k:=by simpa using hk
     exact (aep.out.lt k hk').1
    clear ab3 hgr hat ajb;go_wp2_with fail
    go_roundg (L.length-(i+1))
    case measure=>omega
    case rel=>exact ⟨i+1,rfl,by omega,by simp,by rw [HN.out];exact HE.out.1,HE.out.2⟩
  ·obtain rfl:i=L.length:=by omega
   have hil:¬ ((L.length:Int)<(L.length:Int)):=by omega
   have HE:Hid (TLs wr w.heap.size Z _ (ae8 L x)/\Upd [] w wr):=⟨by rw [List.take_length] at hT;exact hT,hU⟩;clear hT hU;go_wp2_with fail;go_ret;exact ⟨_,rfl,HE.out⟩
end Go.Proofs.YtdackeldhdchaaaGreat
