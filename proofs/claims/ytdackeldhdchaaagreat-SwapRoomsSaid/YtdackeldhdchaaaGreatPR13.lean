import Derived.Test.YtdackeldhdchaaaGreatPR12
import Derived.Test.YtdackeldhdchaaaGreatPR1
import Derived.BigRegion
set_option maxRecDepth 100000
set_option maxHeartbeats 3200000
namespace Go.Proofs.YtdackeldhdchaaaGreat
open Go.RowKit Go.Maps Go.ChangeMaps Go.WideShapes
theorem uk {w:World} {b1 b2:Nat} {e:TypeId} {sz n1 n2:Nat} {v:Value} {xs ys:List Value} (h1:w.ownsRow b1 e sz v n1 xs) (h2:w.ownsRow b2 e sz v n2 ys):n1=n2->xs=ys:=by
 intro hn
 subst hn;obtain ⟨e1,c1⟩:=h1;obtain ⟨e2,c2⟩:=h2
 rcases c1 with ⟨rfl,h0⟩ | ⟨g,jL,Oq,rfl,hg,hh,_,_,_,k1⟩
 ·rcases c2 with ⟨_,_⟩ | ⟨g,gV,cur2,e,_⟩
  ·have a1:xs.length=0:=by rw [e1,h0];simp
   have a2:ys.length=0:=by rw [e2,h0];simp
   rw [List.length_eq_zero_iff.1 a1,List.length_eq_zero_iff.1 a2]
  ·simp at e
 ·rcases c2 with ⟨e,_⟩ | ⟨g',gV,cur2,e,hg',NQ,_,_,_,k2⟩
  ·simp at e
  ·simp at e
   obtain ⟨rfl,_⟩:=e
   rw [hh] at NQ;cases NQ
   rw [<- k1,<- k2]
theorem Ej {L:List TV} {cs:List Value} (h:∀ c,c∈cs->c.oneCell'=true):∀ u,u∈dQ L cs->u.oneCell'=true:=by
 intro u hu
 unfold dQ at hu;obtain ⟨p,hp,hu⟩:=List.mem_flatMap.1 hu
 simp only [List.mem_cons,List.not_mem_nil,or_false] at hu
 rcases hu with rfl | rfl
 ·rfl
 ·exact h _ (List.of_mem_zip hp).2
theorem eF.src {w:World} {n0:Nat} {Z:List Nat} {v:Value} {L:List TV} (h:eF w n0 Z v L):∃ (A:Option Addr) (c:Nat) (ys:List Value),v=.slice A L.length c/\(A=none->L.length=0)/\w.ownsRow n0 121 2 v L.length ys/\ys.length=L.length*2 /\
  (∀ ad,A=some ad->∀ (j:Nat) u,ys[j]?=some u->w.cell? (ad.add j)=some u)/\∀ u,u∈ys->u.oneCell'=true:=by
 obtain ⟨cs,h1,h2,h3⟩:=h.ex;obtain ⟨a,c,hv,hh⟩:=aC h2;refine ⟨a,c,_,hv,?_,h2,h2.1,?_,Ej fun c hc=>?_⟩
 ·rintro rfl
  rcases hh with ⟨_,h0,_⟩ | ⟨g,hg⟩
  ·exact h0
  ·cases hg
 ·intro ad OB j u hj
  rcases hh with ⟨h0,_⟩ | ⟨g,hg⟩
  ·rw [h0] at OB;cases OB
  ·rw [hg] at OB;cases OB
   rw [hg] at hv;exact h2.cells (g:=g) (by rw [hv];rfl) j u hj
 ·obtain ⟨i,hi⟩:=List.getElem?_of_mem hc
  have fE:i<L.length:=by
   by_cases e:i<cs.length
   ·omega
   ·rw [List.getElem?_eq_none (by omega)] at hi;cases hi
  obtain ⟨a,c',hv',_⟩:=fP (h3 i _ c (List.getElem?_eq_getElem fE) hi).row
  rw [hv'];rfl
theorem eF.cat {w w5:World} {n0 n1:Nat} {Z:List Nat} {v v2 v':Value} {L L2:List TV} (h:eF w n0 Z v L) (h2:eF w n1 Z v2 L2) (hZ:∀ k,k∈Z->k<n0) (bU:w.grownBy w5 v.ownBlock) {xs ys:List Value}
  (aB:w.ownsRow n0 121 2 v L.length xs) (nT:w.ownsRow n1 121 2 v2 L2.length ys) (aJ:w5.ownsRow n0 121 2 v' (L.length+L2.length) (xs++ys)) :
  eF w5 n0 Z v' (L++L2)/\af v.ownBlock.toList w w5:=by
 obtain ⟨cs,a1,a2,a3⟩:=h.ex;obtain ⟨ZY,b1,b2,b3⟩:=h2.ex;obtain rfl:=uk aB a2 rfl;obtain rfl:=uk nT b2 rfl
 have hu:af v.ownBlock.toList w w5:=(af.refl _ w).grown bU fun k hk=>.inl (by rw [hk];simp)
 have keep:∀ {u:TV} {d:Value},fO w Z d u->fO w5 Z d u:=fun {u d} hd=>⟨hd.ok,hd.row.kp fun k hk=>hu.block k (hd.row.lt k hk).2 fun hm=>by
  have Jj:v.ownBlock=some k:=by simpa using hm
  obtain ⟨c1,f1,e1⟩:=bC a2 Jj
  exact hd.nb e1 (by decide) (fun ⟨z,hz⟩=>⟨z,hz,by have h1:=hZ z hz;have h2:=(a2.lt k Jj).1;omega⟩) hk,hd.fr⟩
 refine ⟨⟨⟨cs++ZY,by simp [a1,b1],?_,fun i u d iF hd=>?_⟩,fun k hk hm=>?_⟩,hu⟩
 ·have e:dQ (L++L2) (cs++ZY)=dQ L cs++dQ L2 ZY:=by
   unfold dQ;rw [List.zip_append a1.symm,List.flatMap_append]
  rw [e,List.length_append];exact aJ
 ·by_cases hi:i<L.length
  ·rw [List.getElem?_append_left hi] at iF
   rw [List.getElem?_append_left (by omega)] at hd;exact keep (a3 i u d iF hd)
  ·rw [List.getElem?_append_right (by omega)] at iF
   rw [List.getElem?_append_right (by omega),a1] at hd;exact keep (b3 _ u d iF hd)
 ·have h4:=(aJ.lt k hk).1
  have h5:=hZ k hm;omega
theorem uV (m n0:Nat) (M:MV) (p:aQ) (Z:List Nat) (v:Value) (L:List TV) (w:World) (h:bZ w m M p Z) (hZ:∀ k,k∈Z->k<w.heap.size) (hf:M.Fit) (hv:eF w n0 Z v L) (hL:∀ t,t∈L->t.n=M.n) (hl:L.length<=4194304) :
  Calls Tryz.prog 174 #[.pointer (some ⟨m,0,none⟩),v] w fun e w'=>e=.returned (.int .i64 ((eP L M.order).length:Nat))/\af [] w w':=by
 obtain ⟨oa,oc,jK,_⟩:=aC h.os;obtain ⟨_,_,c2,_,_⟩:=h.cells;rw [jK] at c2;have lY:=h.os;rw [jK] at lY;have HS:=Lib.hid (Eg n0 0 Z v _ L M.order M.n w hv hZ hl hL hf.n6 lY hf.ol hf.on);generalize (eP L M.order).length=S at *;clear h hZ hf hv hL hl jK lY
 go_enter Tryz.func174,Tryz.ntmps174
 go_wp2_with fail;refine HS.out.mono ?_;rintro e w1 ⟨rfl,hu⟩;have HU:=Lib.hid hu;clear hu HS;go_wp2_with fail;go_ret;exact ⟨rfl,HU.out⟩
theorem G5 {L:List TV} {o:List Nat} (ho:o.length<=8) (hl:L.length<=4194304):(eP L o).length<=8589934592:=yH ho (Nat.le_trans (eG L) hl)
def MV.fits (M:MV) (X:List TV):Bool:=decide (2+(eP (M.tabs++X) M.order).length<=M.c)
theorem Em (m n0:Nat) (M:MV) (p:aQ) (Z:List Nat) (v:Value) (X:List TV) (w:World) (h:bZ w m M p Z) (hZ:∀ k,k∈Z->k<w.heap.size) (hf:M.Fit) (hv:eF w n0 Z v X) (hX:∀ t,t∈X->t.n=M.n) (hl:X.length<=1000) :
  Calls Tryz.prog 119 #[.pointer (some ⟨m,0,none⟩),v] w fun e w'=>e=.returned (.bool (M.fits X))/\af [] w w':=by
 obtain ⟨ti,dP,dX,dV,dW⟩:=info_parts Tryz.infoTable;have HI:=Lib.hid (And.intro dP (And.intro dX (And.intro dV dW)));obtain ⟨_,c1,_,_,_⟩:=h.cells;have HM:=Lib.hid h;have HF:=Lib.hid hf;have HV:=Lib.hid hv;have HX:=Lib.hid hX
 have HZ:Hid (∀ x:World,af [] w x->∀ k,k∈Z->k<x.heap.size):=fun x u k hk=>Nat.lt_of_lt_of_le (hZ k hk) u.size
 have yJ:M.tabs.length<=65536:=by unfold MV.tabs;rw [List.length_map];exact hf.hl
 have sU:=Lib.hid (jS m M p Z w h hZ (by have:=hf.hl;omega));obtain ⟨xa,xc,rfl,_⟩:=hv.form;clear h hZ hf hv hX dP dX dV dW
 go_enter Tryz.func119,Tryz.ntmps119
 go_wp2_with fail;refine sU.out.mono ?_;rintro e w1 hE;obtain ⟨cf,rfl,hT,hu⟩:=hE.ex;obtain ⟨A,c,ys,VI,hA,aB,Jk,P9,hy1⟩:=hT.src;have HT:=Lib.hid (And.intro hT hu);have HY:=Lib.hid (And.intro hA (And.intro aB (And.intro Jk (And.intro P9 hy1))));have df:=hu.size;subst VI;clear hT hu hE sU hA aB Jk P9 hy1
 go_wp2_with (at_builtin;go_must (refine fK rfl (.tmp 6) (.tmp 8) 22 rfl w.heap.size 121 ti _ 2 32 Tryz.underlying22 HI.out.1 HI.out.2.1 HI.out.2.2.1 HI.out.2.2.2 (by rfl) (by decide) (.slice none 0 0) 0 [] rfl (World.ownsRow_nil _ _ _ _) A M.tabs.length c ys rfl HY.out.1 HY.out.2.2.1 HY.out.2.2.2.1 HY.out.2.2.2.2 (by unfold maxLen;omega) (by omega) df ?_))
 intro v2 w2 aJ bU bI
 have hp:=(eF.nil w1 w.heap.size Z).cat HT.out.1 (HZ.out w (af.refl _ _)) bU (World.ownsRow_nil _ _ _ _) HY.out.2.1 (by rw [List.length_nil,Nat.zero_add,List.nil_append];exact aJ);rw [List.nil_append] at hp;have kY:af [] w1 w2:=hp.2;obtain ⟨A2,c2',ys2,ZZ,hA2,nT,Z4,Z5,Z7⟩:=hp.1.src;obtain ⟨A3,c3',ys3,Z8,hA3,Qa,VJ,VK,VM⟩:=(HV.out.keep0 (HT.out.2.trans kY)).src;cases Z8;subst ZZ;have FP:=Lib.hid (And.intro hp.1 (HT.out.2.trans kY));have Yw:=Lib.hid nT;have UM:=Lib.hid (And.intro hA3 (And.intro Qa (And.intro VJ (And.intro VK VM))));have En:=FP.out.2.size;clear aJ bU bI hp kY HY HT hA2 nT Z4 Z5 Z7 hA3 Qa VJ VK VM
 go_wp2_with (at_builtin;go_must (refine fK rfl (.tmp 10) (.tmp 11) 22 rfl w.heap.size 121 ti _ 2 32 Tryz.underlying22 HI.out.1 HI.out.2.1 HI.out.2.2.1 HI.out.2.2.2 (by rfl) (by decide) _ M.tabs.length ys2 rfl Yw.out xa X.length xc ys3 rfl UM.out.1 UM.out.2.2.1 UM.out.2.2.2.1 UM.out.2.2.2.2 (by unfold maxLen;omega) (by omega) En ?_))
 intro v3 w3 aJ bU bI
 have hp:=FP.out.1.cat (HV.out.keep0 FP.out.2) (HZ.out w (af.refl _ _)) bU Yw.out UM.out.2.1 aJ
 have eu:af [] w w3:=FP.out.2.then hp.2 fun k hk=>.inr (by
  have dD:(Value.slice A2 M.tabs.length c2').ownBlock=some k:=by simpa using hk
  exact (Yw.out.lt k dD).1)
 have jQ:=Lib.hid eu;have d1:=eu.cell0 c1;have Eh:=G5 (L:=M.tabs++X) HF.out.ol (by rw [List.length_append];omega)
 have Qb:=Lib.hid (uV m w.heap.size M p Z v3 (M.tabs++X) w3.drew ((HM.out.keep0 eu).keep0 (af.refl _ _).drew) (HZ.out _ eu.drew) HF.out (hp.1.keep0 (af.refl _ _).drew) (fun t ht=>by
  rcases List.mem_append.1 ht with ht | ht
  ·exact (HF.out.tn t ht).2
  ·exact HX.out t ht) (by rw [List.length_append];omega))
 obtain ⟨A4,c4',rfl,_⟩:=hp.1.form;have RV:Hid (M.fits X=decide (2+(eP (M.tabs++X) M.order).length<=M.c)):=rfl;have NR:=HF.out.cb;generalize (eP (M.tabs++X) M.order).length=S at *;generalize (M.tabs++X).length=TL at *;clear aJ bU bI hp eu Yw UM FP c1;have eQ:IntKind.i64.wrap (2+(S:Int))=2+(S:Int):=IntWalk.i64_in _ (by omega);go_wp2_with fail
 go_region_held3 (fun w'=>w'.cell? ⟨m,1,none⟩=some (.int .i64 M.c)) (first | exact d1 | exact HS.out.cell0 d1) (first | (go_at_call 174;refine Qb.out.mono ?_;rintro e w4 ⟨rfl,hu⟩;have HS:=Lib.hid hu.of_drew;clear hu))
 clear eQ;go_wp2_with fail;go_ret
 exact ⟨JY (by
  rw [RV.out,Bool.eq_iff_iff]
  simp only [decide_eq_true_eq]
  omega),jQ.out.trans HS.out⟩
def TV.isC (t:TV):Bool:=decide (t=jA t.n false)||decide (t=jA t.n true)
theorem zI (Z:List Nat) (c:Value) (t:TV) (w:World) (h:fO w Z c t) (hZ:∀ k,k∈Z→k < w.heap.size) :
    Calls Tryz.prog 175 #[bK t c] w fun e w'=>e=.returned (.bool t.isC)∧af [] w w':=by
  obtain ⟨fa,ca,FH,_⟩:=fP h.row;subst FH;have A7:=h.ok.n16
  have HX:Hid (∀ x:World,af [] w x→fO x Z (.slice fa t.ws.length ca) t):=fun x u=>h.keep0 u
  have HZ:Hid (∀ x:World,af [] w x→∀ k,k∈Z→k < x.heap.size):=fun x u k hk=>Nat.lt_of_lt_of_le (hZ k hk) u.size
  have dR:=Lib.hid (((af.refl [] w).alloc (.cells #[.int .i64 t.n,.slice fa t.ws.length ca] 121 (0,0))).drew);have hb:=jc w (.int .i64 t.n) (.slice fa t.ws.length ca)
  have uK:Hid (∀ (x:World) (d:Value) (u:TV),af [] w x→fO x Z d u→Calls Tryz.prog 122 #[.agg #[.int .i64 t.n,.slice fa t.ws.length ca],bK u d] x fun e w'=>e=.returned (.bool (decide (t=u)))∧af [] x w'):=fun x d u hx hd=>iE Z _ d t u x (h.keep0 hx) hd
  have HD:Hid (t.isC=(decide (t=jA t.n false) || decide (t=jA t.n true))):=rfl;unfold bK;generalize t.ws.length=L at *;generalize hn:t.n=n at *;obtain ⟨b0,b1⟩:=hb
  have HK:Hid (∀ x:World,af [] (w.alloc (.cells #[.int .i64 n,.slice fa L ca] 121 (0,0))).drew x→x.cell? ⟨w.heap.size,0,none⟩=some (.int .i64 n)∧x.cell? ⟨w.heap.size,1,none⟩=some (.slice fa L ca)):=fun x u=>bH (af.of_drew u) ⟨b0,b1⟩
  clear h hZ hn
  by_cases e1:t=jA n false
  · have E1:Hid (decide (t=jA n false)=true):=decide_eq_true e1
    clear e1
    go_enter Tryz.func175,Tryz.ntmps175
    go_wp2_with fail;refine fD (fun w'=>w'.cell? ⟨w.heap.size,0,none⟩=some (.int .i64 n)∧w'.cell? ⟨w.heap.size,1,none⟩=some (.slice fa L ca)) (fun _=>True) [] (by kernel_rfl) ?_;have hS:=HK.out _ (af.refl [] _);refine dh (i:=0) (v:=?v1) rfl (by kernel_rfl) (by kernel_rfl) (by kernel_rfl) (by kernel_rfl) (fun _ _ _ h=>h) (Or.inl ⟨by rfl,?hy1⟩) hS (fun _=>trivial) ?rest1
    case hy1=>(intro x G6; (try dsimp only at G6); go_simp; try with_reducible rfl)
    (try simp only [Act.put,List.setIfInBounds_toArray])
    refine dh (i:=1) (v:=?v2) rfl (by kernel_rfl) (by kernel_rfl) (by kernel_rfl) (by kernel_rfl) (fun _ _ _ h=>h) (Or.inl ⟨by rfl,?hy2⟩) hS (fun _=>trivial) ?rest2
    case hy2=>(intro x G6; (try dsimp only at G6); go_simp; try with_reducible rfl)
    (try simp only [Act.put])
    refine dh (i:=2) (v:=?v3) rfl (by kernel_rfl) (by kernel_rfl) (by kernel_rfl) (by kernel_rfl) (fun _ _ _ h=>h) (Or.inl ⟨by rfl,?hy3⟩) hS (fun _=>trivial) ?rest3
    case hy3=>(intro x G6; (try dsimp only at G6); go_simp; try with_reducible rfl)
    (try simp only [Act.put])
    refine aG (rs:=[3]) (by kernel_rfl) (by simp) ?_;refine ai.cons rfl (fun K hK=>?_) ?_
    rotate_left
    exact ai.nil
    go_simp
    (go_at_call 90; refine (mM n false _ A7).mono ?_; rintro e w3 hE; obtain ⟨cf,rfl,hT,hu⟩:=hE.ex; have HF:=Lib.hid (And.intro hT hu); clear hE hT hu)
    go_wp2_with fail;refine hK.out _ _ ⟨HK.out _ HF.out.2,fun _=>trivial⟩ (fun hHeld=>?_);clear hK K hS;have hS:=hHeld.1;clear hHeld
    (try simp only [Act.put,List.setIfInBounds_toArray,List.set_cons_zero,List.set_cons_succ])
    refine aG (rs:=[4]) (by kernel_rfl) (by simp) ?_;refine ai.cons rfl (fun K hK=>?_) ?_
    rotate_left
    exact ai.nil
    go_simp
    (go_at_call 122; refine (uK.out _ _ _ (dR.out.trans HF.out.2) ((HF.out.1.base dR.out.size).tin (HZ.out w (af.refl _ _)))).mono ?_; rintro e w5 ⟨rfl,hu⟩; rw [E1.out]; have sV:=Lib.hid hu; clear hu)
    go_wp2_with fail;refine hK.out _ _ ⟨HK.out _ (HF.out.2.trans sV.out),fun _=>trivial⟩ (fun hHeld=>?_);clear hK K hS;have hS:=hHeld.1;clear hHeld
    (try simp only [Act.put,List.setIfInBounds_toArray,List.set_cons_zero,List.set_cons_succ])
    refine dh (i:=5) (v:=?v4) rfl (by kernel_rfl) (by kernel_rfl) (by kernel_rfl) (by kernel_rfl) (fun _ _ _ h=>h) (Or.inl ⟨by rfl,?hy4⟩) hS (fun _=>trivial) ?rest4
    case hy4=>(intro x G6; (try dsimp only at G6); go_simp; try with_reducible rfl)
    (try simp only [Act.put,List.setIfInBounds_toArray])
    refine dh (i:=6) (v:=undef) rfl (by kernel_rfl) (by kernel_rfl) (by kernel_rfl) (by kernel_rfl) (fun _ _ _ h=>h) (Or.inr ⟨by rfl,rfl⟩) hS (fun _=>trivial) ?rest5
    (try simp only [Act.put])
    refine dh (i:=7) (v:=undef) rfl (by kernel_rfl) (by kernel_rfl) (by kernel_rfl) (by kernel_rfl) (fun _ _ _ h=>h) (Or.inr ⟨by rfl,rfl⟩) hS (fun _=>trivial) ?rest6
    (try simp only [Act.put])
    refine dh (i:=8) (v:=undef) rfl (by kernel_rfl) (by kernel_rfl) (by kernel_rfl) (by kernel_rfl) (fun _ _ _ h=>h) (Or.inr ⟨by rfl,rfl⟩) hS (fun _=>trivial) ?rest7
    (try simp only [Act.put])
    refine dh (i:=9) (v:=undef) rfl (by kernel_rfl) (by kernel_rfl) (by kernel_rfl) (by kernel_rfl) (fun _ _ _ h=>h) (Or.inr ⟨by rfl,rfl⟩) hS (fun _=>trivial) ?rest8
    (try simp only [Act.put])
    refine dh (i:=10) (v:=undef) rfl (by kernel_rfl) (by kernel_rfl) (by kernel_rfl) (by kernel_rfl) (fun _ _ _ h=>h) (Or.inr ⟨by rfl,rfl⟩) hS (fun _=>trivial) ?rest9
    (try simp only [Act.put])
    refine aG (rs:=[11]) (by kernel_rfl) (by simp) ?_;refine ai.cons rfl (fun K hK=>?_) ?_
    rotate_left
    exact ai.nil
    go_simp
    refine hK.out _ _ ⟨hS,fun _=>trivial⟩ (fun hHeld=>?_);clear hK K hHeld
    (try simp only [Act.put,List.setIfInBounds_toArray,List.set_cons_zero,List.set_cons_succ])
    refine aG (rs:=[12]) (by kernel_rfl) (by simp) ?_;refine ai.cons rfl (fun K hK=>?_) ?_
    rotate_left
    exact ai.nil
    go_simp
    refine hK.out _ _ ⟨hS,fun _=>trivial⟩ (fun hHeld=>?_);clear hK K hHeld
    (try simp only [Act.put,List.setIfInBounds_toArray,List.set_cons_zero,List.set_cons_succ])
    refine dJ (by kernel_rfl) ?_ _
    all_goals (
      go_wp2_with fail;go_ret
      exact ⟨by rw [HD.out,E1.out]; rfl,(dR.out.trans HF.out.2).trans sV.out⟩)
  · have E1:Hid (decide (t=jA n false)=false):=decide_eq_false e1
    clear e1
    go_enter Tryz.func175,Tryz.ntmps175
    go_wp2_with fail
    first | (go_region_held3 (fun w' => w'.cell? ⟨w.heap.size, 0, none⟩ = some (.int .i64 n) ∧ w'.cell? ⟨w.heap.size, 1, none⟩ = some (.slice fa L ca)) (first | exact ⟨b0, b1⟩ | exact HK.out _ HF.out.2 | exact HK.out _ (HF.out.2.trans sV.out) | exact HK.out _ ((HF.out.2.trans sV.out).trans HT.out.2) | exact HK.out _ (((HF.out.2.trans sV.out).trans HT.out.2).trans Bo.out)) (first | (go_at_call_of 90 (Value.bool false); refine (mM n false _ A7).mono ?_; rintro e w3 hE; obtain ⟨cf, rfl, hT, hu⟩ := hE.ex; have HF := Lib.hid (And.intro hT hu); clear hE hT hu) | (go_at_call_of 90 (Value.bool true); refine (mM n true _ A7).mono ?_; rintro e w4 hE; obtain ⟨ct, rfl, hT, hu⟩ := hE.ex; have HT := Lib.hid (And.intro hT hu); clear hE hT hu) | (go_at_call 122; refine (uK.out _ _ _ ((dR.out.trans (HF.out.2.trans sV.out)).trans HT.out.2) ((HT.out.1.base ((dR.out.trans HF.out.2).trans sV.out).size).tin (HZ.out w (af.refl _ _)))).mono ?_; rintro e w6 ⟨rfl, hu⟩; have Bo := Lib.hid hu; clear hu) | (go_at_call 122; refine (uK.out _ _ _ (dR.out.trans HF.out.2) ((HF.out.1.base dR.out.size).tin (HZ.out w (af.refl _ _)))).mono ?_; rintro e w5 ⟨rfl, hu⟩; rw [E1.out]; have sV := Lib.hid hu; clear hu))) | fail "held3"
    go_wp2_with fail;go_ret;exact ⟨by rw [HD.out,E1.out]; rfl,(dR.out.trans ((HF.out.2.trans sV.out).trans HT.out.2)).trans Bo.out⟩
theorem MV.Fit.lev_len {M:MV} (h:M.Fit):M.lev.length<=8:=by unfold MV.lev;rw [mF];exact h.ol
def fQ:List (TV × Nat)->TV->Nat
 | [],_=>0
 | h::H,t=>if h.1=t then h.2 else fQ H t
def MV.holds (M:MV) (t:TV):Nat:=fQ M.held t
theorem uX:∀ {H:List (TV × Nat)} {t:TV} {i:Nat} {u:TV × Nat},H[i]?=some u->u.1=t->(∀ h,h∈H.take i->h.1≠t)->fQ H t=u.2
 | [],_,_,_,h,_,_=>by simp at h
 | a::H,t,0,u,h,e,_=>by simp at h;subst h;simp [fQ,e]
 | a::H,t,i+1,u,h,e,bM=>by
  have h1:a.1≠t:=bM a (by simp)
  simp only [fQ,if_neg h1]
  exact uX (i:=i) (by simpa using h) e fun b hb=>bM b (by simp [hb])
theorem uY:∀ {H:List (TV × Nat)} {t:TV},(∀ h,h∈H->h.1≠t)->fQ H t=0
 | [],_,_=>rfl
 | a::H,t,bM=>by
  simp only [fQ,if_neg (bM a (by simp))]
  exact uY fun b hb=>bM b (by simp [hb])
theorem uZ (m:Nat) (M:MV) (p:aQ) (Z:List Nat) (c:Value) (t:TV) (w:World) (h:bZ w m M p Z) (ht:fO w Z c t) (hl:M.held.length<=4194304) :
  Calls Tryz.prog 118 #[.pointer (some ⟨m,0,none⟩),bK t c] w fun e w'=>e=.returned (.int .i64 (M.holds t:Nat))/\af [] w w':=by
 obtain ⟨ta,tc,rfl,_⟩:=fP ht.row;obtain ⟨fa,fc,jM,Eb⟩:=h.hs.form;obtain ⟨_,_,_,c3,_⟩:=h.cells;rw [jM] at c3;have hs:=h.hs;rw [jM] at hs;have HL:=Lib.hid hs;have HT:=Lib.hid ht;have dR:=Lib.hid ((af.refl [] w).alloc (.cells #[.int .i64 t.n,.slice ta t.ws.length tc] 121 (0,0)));have hb:=jc w (.int .i64 t.n) (.slice ta t.ws.length tc)
 have uK:Hid (∀ (x:World) (d:Value) (u:TV),af [] w x->fO x Z d u->Calls Tryz.prog 122 #[bK u d,bK t (.slice ta t.ws.length tc)] x fun e w'=>e=.returned (.bool (decide (u=t)))/\af [] x w'):=fun x d u hx hd=>iE Z d _ u t x hd (ht.keep0 hx)
 have HD:Hid (M.holds t=fQ M.held t):=rfl;have d3:=dR.out.cell0 c3;unfold bK at uK ⊢;generalize t.ws.length=W at *;generalize t.n=n at *;obtain ⟨b0,b1⟩:=hb
 have HB:Hid (∀ x:World,af [] (w.alloc (.cells #[.int .i64 n,.slice ta W tc] 121 (0,0))) x->x.cell? ⟨w.heap.size,0,none⟩=some (.int .i64 n)/\x.cell? ⟨w.heap.size,1,none⟩=some (.slice ta W tc)):=fun x u=>bH u ⟨b0,b1⟩
 generalize M.held=H at *;clear h jM hs ht b0 b1 c3
 go_enter Tryz.func118,Tryz.ntmps118
 go_wp2_with fail
 go_loopg [12] H.length (fun g s12 wr=>∃ i:Nat,H.length-i=g/\i<=H.length/\s12=.int .i64 i/\(∀ h,h∈H.take i->h.1≠t)/\af [] (w.alloc (.cells #[.int .i64 n,.slice ta W tc] 121 (0,0))) wr)
 case atStart=>exact ⟨0,by omega,by omega,rfl,by simp,af.refl _ _⟩
 case round =>
  obtain ⟨i,rfl,hi,rfl,bM,hU⟩:=hrel
  by_cases aZ:i<H.length
  ·obtain ⟨u,hu⟩ : ∃ u,H[i]?=some u:=⟨_,List.getElem?_eq_getElem aZ⟩
   obtain ⟨ga,rfl⟩:=Eb (by omega);have Jl:=dR.out.trans hU;obtain ⟨cu,x0,x1,x2,lQ⟩:=(HL.out.keep Jl (by simp) (by simp)).at_ hu;obtain ⟨ua,uc,GU,_⟩:=fP lQ.row;subst GU
   have fE:(i:Int)<(H.length:Int):=by omega
   obtain ⟨z0,z1,z2⟩:=VH wr (.int .i64 u.1.n) (.slice ua u.1.ws.length uc) (.int .i64 u.2);have pM:=(af.refl [] wr).alloc (.cells #[.int .i64 u.1.n,.slice ua u.1.ws.length uc,.int .i64 u.2] 255 (0,0));obtain ⟨y0,y1⟩:=HB.out _ (hU.trans pM);have sV:=Lib.hid (uK.out _ _ u.1 (Jl.trans pM) (lQ.keep0 pM));have HN:=Lib.hid (And.intro hu (And.intro bM (pM)));have Ym:=Lib.hid hU;have HZB:Hid ((wr.alloc (.cells #[.int .i64 u.1.n,.slice ua u.1.ws.length uc,.int .i64 u.2] 255 (0,0))).cell? ⟨wr.heap.size,2,none⟩=some (.int .i64 u.2)):=z2;obtain ⟨q,k⟩:=u
   simp only at *
   generalize q.ws.length=UW at *;generalize q.n=un at *;clear hu lQ bM hU Jl pM;go_wp2_with fail;refine sV.out.mono ?_;rintro e w5 ⟨rfl,nU⟩;have k2:=nU.cell0 HZB.out;have DC:=Lib.hid (Ym.out.trans (HN.out.2.2.trans nU));clear nU sV x0 x1 x2 y0 y1 z0 z1 z2 HZB
   by_cases he:q=t
   ·rw [decide_eq_true he]
    have HE:Hid (M.holds t=k):=by show _=k;rw [HD.out];exact uX HN.out.1 he HN.out.2.1
    clear he;go_wp2_with fail;go_ret;exact ⟨OA (congrArg _ HE.out.symm),dR.out.trans DC.out⟩
   ·rw [decide_eq_false he]
    have HE:Hid (∀ h,h∈H.take (i+1)->h.1≠t):=fun h hh=>by
     rw [List.take_add_one,HN.out.1] at hh
     rcases List.mem_append.1 hh with hh | hh
     ·exact HN.out.2.1 h hh
     ·simp at hh;subst hh;exact he
    clear he k2;go_wp2_with fail
    go_roundg (H.length-(i+1))
    case measure=>omega
    case rel=>exact ⟨i+1,rfl,by omega,by simp,HE.out,DC.out⟩
  ·obtain rfl:i=H.length:=by omega
   have fE:¬ ((H.length:Int)<(H.length:Int)):=by omega
   have HE:Hid (M.holds t=0/\af [] w wr):=⟨by rw [HD.out];exact uY (by rw [List.take_length] at bM;exact bM),dR.out.trans hU⟩;clear bM hU;go_wp2_with fail;go_ret;exact ⟨by rw [HE.out.1];rfl,HE.out.2⟩
theorem Tryz.infoIntM:(Tryz.prog.info? 3).map (fun i=>(i.zero,i.size,i.bytes))=some (some (.int .i64 0),1,8):=by kernel_rfl
def bD (o:List Nat) (l:Nat):List Nat:=(o.set l (o.getD (l+1) 0)).set (l+1) (o.getD l 0)
theorem iJ (o:List Nat) (l:Nat):(bD o l).length=o.length:=by simp [bD]
theorem qM {o:List Nat} {l x:Nat} (hl:l+1<o.length) (h:x∈bD o l):x∈o:=by
 unfold bD at h
 have m0:o.getD l 0∈o:=by rw [List.getD_eq_getElem?_getD,List.getElem?_eq_getElem (by omega)];exact List.getElem_mem _
 have m1:o.getD (l+1) 0∈o:=by rw [List.getD_eq_getElem?_getD,List.getElem?_eq_getElem (by omega)];exact List.getElem_mem _
 rcases jq h with h | h
 ·rcases jq h with h | h
  ·exact h
  ·rw [h];exact m1
 ·rw [h];exact m0
structure VN (o:List Nat) (l:Nat) (w:World) (e:Ending) (w':World):Prop where
 ex:∃ g c:Nat,e=.returned (.slice (some ⟨g,0,none⟩) o.length c)/\w'.ownsRow w.heap.size 3 1 (.slice (some ⟨g,0,none⟩) o.length c) o.length (aK (bD o l))/\af [] w w'
theorem ve (l:List Nat) (r n:Nat):(aK l).set r (.int .i64 n)=aK (l.set r n):=by simp [aK,List.map_set]
theorem pV {w:World} {base g n' c n:Nat} {l:List Nat} (h:w.ownsRow base 3 1 (.slice (some ⟨g,0,none⟩) n' c) n (aK l)) {j:Nat} (hj:j<l.length):w.cell? ⟨g,j,none⟩=some (.int .i64 (l.getD j 0:Nat)):=by
 refine ax h ?_
 rw [aK,List.getElem?_map,List.getElem?_eq_getElem hj,List.getD_eq_getElem?_getD,List.getElem?_eq_getElem hj];rfl
theorem G7 {w:World} {base g c n:Nat} {o:List Nat} {l:Nat} (h:w.ownsRow base 3 1 (.slice (some ⟨g,0,none⟩) n c) n (aK o)) (hl:l+1<n) :
  ((w.setCell ⟨g,l,none⟩ (.int .i64 (o.getD (l+1) 0:Nat))).setCell ⟨g,l+1,none⟩ (.int .i64 (o.getD l 0:Nat))).ownsRow base 3 1 (.slice (some ⟨g,0,none⟩) n c) n (aK (bD o l)):=by
 have h1:=dA h (j:=l) (by omega) (.int .i64 (o.getD (l+1) 0:Nat));rw [ve] at h1;have h2:=dA h1 (j:=l+1) (by omega) (.int .i64 (o.getD l 0:Nat));rw [ve] at h2;exact h2
theorem rP (b0:Nat) (v:Value) (o:List Nat) (l:Nat) (w:World) (h:w.ownsRow b0 3 1 v o.length (aK o)) (hl:l+1<o.length) (ho:o.length<=64) :
  Calls Tryz.prog 123 #[v,.int .i64 l] w fun e w'=>VN o l w e w':=by
 obtain ⟨ti,dP,dX,dV,dW⟩:=info_parts Tryz.infoIntM;have HI:=Lib.hid (And.intro dP (And.intro dX (And.intro dV dW)))
 obtain ⟨g0,c0,rfl⟩ : ∃ g0 c0,v=.slice (some ⟨g0,0,none⟩) o.length c0:=by
  obtain ⟨a,c,hv,_⟩:=aC h;rw [hv] at h;obtain ⟨g,rfl⟩:=bY h (by omega);exact ⟨g,c,hv⟩
 have HW:=Lib.hid h
 have HL1:Hid (∀ u,u∈aK o->u.oneCell'=true):=by intro u hu;simp [aK] at hu;obtain ⟨x,_,rfl⟩:=hu;rfl
 have Z9:Hid ((aK o).length=o.length*1):=by show _=_;simp [aK]
 clear h dP dX dV dW
 go_enter Tryz.func123,Tryz.ntmps123
 go_wp2_with (at_builtin;go_must (refine wpList_append_lies _ rfl (.tmp 6) (.tmp 7) 23 rfl w.heap.size 3 ti _ 1 8 Tryz.underlying23 HI.out.1 HI.out.2.1 HI.out.2.2.1 HI.out.2.2.2 (by rfl) (by decide) _ 0 [] rfl (World.ownsRow_nil _ _ _ _) ⟨g0,0,none⟩ o.length c0 (aK o) rfl Z9.out ?c1 HL1.out (by omega) (by unfold maxLen;omega) (by omega) (by omega) _ rfl ?_))
 case c1=>exact fun j u hj=>HW.out.cells (g:=g0) rfl j u hj
 intro g5 cap w5 aJ bU bI jd
 have Yx:af [] w w5:=(af.refl [] w).grown bU (by simp [Value.ownBlock]);have e0:=pV aJ (j:=l) (by omega);have e1:=pV aJ (j:=l+1) (by omega);have f0:=aS aJ l;have f1:=aS aJ (l+1);have hE:=G7 aJ hl;have HE:=Lib.hid (And.intro hE (And.intro Yx (aJ.lt g5 rfl).1));generalize o.getD l 0=X at *;generalize o.getD (l+1) 0=Y at *
 have kC:(l:Int)<(o.length:Int):=by omega
 have rQ:(l:Int)+1<(o.length:Int):=by omega
 have mg:IntKind.i64.wrap ((l:Int)+1)=(l:Int)+1:=IntWalk.i64_in _ (by omega)
 have JX:((l:Int)+1).toNat=l+1:=by omega
 have hp1:(0:Int)<=(l:Int)+1:=by omega
 clear aJ bU bI jd Yx hE;go_wp2_with fail
 go_region
 go_wp2_with fail;go_ret;exact ⟨g5,cap,rfl,HE.out.1,((HE.out.2.1.setCell (p:=⟨g5,l,none⟩) (.inr HE.out.2.2) _).setCell (p:=⟨g5,l+1,none⟩) (.inr HE.out.2.2) _).drew⟩
def MV.U (M:MV) (l:Nat):Nat:=(aP (M.lev.flatten++(dZ (aP M.tabs) (bD M.order l)).flatten)).length
theorem MV.Fit.tl {M:MV} (h:M.Fit):M.tabs.length<=65536:=by unfold MV.tabs;rw [List.length_map];exact h.hl
theorem MV.Fit.lev_leS {M:MV} (h:M.Fit):M.lev.flatten.length<=135168000 :=
 yI h.ol (by have:=eG M.tabs;have:=h.tl;omega)
theorem MV.Fit.turn_leS {M:MV} (h:M.Fit) (l:Nat):(dZ (aP M.tabs) (bD M.order l)).flatten.length<=135168000 :=
 yI (by rw [iJ];exact h.ol) (by have:=eG M.tabs;have:=h.tl;omega)
theorem mO {L:List (List TV)} {i:Nat} {l:List TV} (h:L[i]?=some l):(L.take (i+1)).flatten=(L.take i).flatten++l:=by
 rw [List.take_add_one,h];simp [List.flatten_append]
theorem eF.far {w w':World} {n0:Nat} {Z:List Nat} {v:Value} {L:List TV} (h:eF w n0 Z v L) {k0:Option Nat} (u:af k0.toList w w') (hn:∀ k,k0=some k->k<n0) (ht:∀ k,k0=some k->∃ cs fr,w.heap[k]?=some (.cells cs 121 fr)) (hz:∀ k,k0=some k->(∃ z,z∈Z)->∃ z,z∈Z/\z<=k):eF w' n0 Z v L:=by
 obtain ⟨cs,h1,h2,h3⟩:=h.ex;refine ⟨⟨cs,h1,ah h2 fun k hk=>u.block k (h2.lt k hk).2 fun hm=>?_,fun i t c hi hc=>?_⟩,h.fr⟩
 ·have h4:=hn k (Option.mem_toList.1 hm)
  have h5:=(h2.lt k hk).1;omega
 ·have h6:=h3 i t c hi hc
  refine ⟨h6.ok,h6.row.kp fun k hk=>u.block k (h6.row.lt k hk).2 fun hm=>?_,h6.fr⟩;obtain ⟨c1,f1,e1⟩:=ht k (Option.mem_toList.1 hm);exact h6.nb e1 (by decide) (hz k (Option.mem_toList.1 hm)) hk
theorem qC.far {w w':World} {n0:Nat} {Z:List Nat} {v:Value} {L:List (List TV)} (h:qC w n0 Z v L) {k0:Option Nat} (u:af k0.toList w w') (hn:∀ k,k0=some k->k<n0) (ht:∀ k,k0=some k->∃ cs fr,w.heap[k]?=some (.cells cs 121 fr)) (hz:∀ k,k0=some k->(∃ z,z∈Z)->∃ z,z∈Z/\z<=k):qC w' n0 Z v L:=by
 obtain ⟨cs,h1,h2,h3⟩:=h.ex;refine ⟨⟨cs,h1,ah h2 fun k hk=>u.block k (h2.lt k hk).2 fun hm=>?_,fun i t c hi hc=>(h3 i t c hi hc).far u hn ht hz⟩,h.fr⟩;have h4:=hn k (Option.mem_toList.1 hm);have h5:=(h2.lt k hk).1;omega
theorem JZ (m:Nat) (M:MV) (p:aQ) (Z:List Nat) (l:Nat) (w:World) (h:bZ w m M p Z) (hZ:∀ k,k∈Z->k<w.heap.size) (hf:M.Fit) (hl:l+1<M.order.length) :
  Calls Tryz.prog 64 #[.pointer (some ⟨m,0,none⟩),.int .i64 l] w fun e w'=>e=.returned (.int .i64 (M.U l:Nat))/\af [] w w':=by
 obtain ⟨ti,dP,dX,dV,dW⟩:=info_parts Tryz.infoTable;have HI:=Lib.hid (And.intro dP (And.intro dX (And.intro dV dW)));obtain ⟨oa,oc,jK,_⟩:=aC h.os;obtain ⟨_,_,c2,_,_⟩:=h.cells;rw [jK] at c2;have lY:=h.os;rw [jK] at lY;have NS:=Lib.hid lY;have HM:=Lib.hid h;have HF:=Lib.hid hf
 have HZ:Hid (∀ x:World,af [] w x->∀ k,k∈Z->k<x.heap.size):=fun x u k hk=>Nat.lt_of_lt_of_le (hZ k hk) u.size
 have RU:=Lib.hid (pU m M p Z w h hZ hf);have zJ:=hf.lev_leS;have xG:=hf.turn_leS l;have zK:=hf.lev_len
 have RX:(dZ (aP M.tabs) (bD M.order l)).length<=8:=by rw [mF,iJ];exact hf.ol
 have yJ:=hf.tl;have zC:=hf.ol;have HD:Hid (M.U l=(aP (M.lev.flatten++(dZ (aP M.tabs) (bD M.order l)).flatten)).length):=rfl;generalize M.lev=LV at *;obtain ⟨A8,RY⟩ : ∃ L,dZ (aP M.tabs) (bD M.order l)=L:=⟨_,rfl⟩;have J3:=Lib.hid RY;rw [RY] at xG HD RX;clear h hZ hf jK lY dP dX dV dW RY
 go_enter Tryz.func64,Tryz.ntmps64
 go_wp2_with fail;refine RU.out.mono ?_;rintro e w1 hE;obtain ⟨lv,rfl,hL,fF⟩:=hE.ex;obtain ⟨aa,ac,VD,ZX⟩:=hL.form;subst VD;have HL:=Lib.hid (And.intro hL fF);have BF:=Lib.hid (HZ.out w1 fF);clear hL fF hE RU;go_wp2_with fail
 go_loopg [5,13] LV.length (fun g s5 s13 wr=>∃ i:Nat,LV.length-i=g/\i<=LV.length/\s13=.int .i64 i/\eF wr w1.heap.size Z s5 (LV.take i).flatten/\af [] w1 wr)
 case atStart=>exact ⟨0,by omega,by omega,rfl,by simpa using eF.nil w1 w1.heap.size Z,af.refl _ _⟩
 case round =>
  obtain ⟨i,rfl,hi,rfl,hT,hU⟩:=hrel
  by_cases aZ:i<LV.length
  ·obtain ⟨c,hc⟩ : ∃ c,LV[i]?=some c:=⟨_,List.getElem?_eq_getElem aZ⟩
   obtain ⟨ga,rfl⟩:=ZX (by omega);obtain ⟨cl,x0,yJ⟩:=(HL.out.1.keep0 hU).at_ hc;obtain ⟨A,cc,ys,VI,hA,aB,Jk,P9,hy1⟩:=yJ.src;subst VI;obtain ⟨xs,OC⟩:=hT.row;have FQ:=Nat.le_trans (kX LV (i+1)) zJ;have HS:=Lib.hid (mO hc);rw [HS.out,List.length_append] at FQ;have HP:=Lib.hid (And.intro hT (And.intro yJ (And.intro hU OC)));have HY:=Lib.hid (And.intro hA (And.intro aB (And.intro Jk (And.intro P9 hy1))));have df:=hU.size
   have fE:(i:Int)<(LV.length:Int):=by omega
   generalize (LV.take i).flatten=CU at *;generalize Ox:c.length=cn at *;have uO:=Lib.hid Ox;clear hT hU hc yJ OC hA aB Jk P9 hy1 Ox
   go_wp2_with (at_builtin;go_must (refine fK rfl (.tmp 17) (.tmp 18) 22 rfl w1.heap.size 121 ti _ 2 32 Tryz.underlying22 HI.out.1 HI.out.2.1 HI.out.2.2.1 HI.out.2.2.2 (by rfl) (by decide) _ CU.length xs rfl HP.out.2.2.2 A cn cc ys rfl HY.out.1 HY.out.2.2.1 HY.out.2.2.2.1 HY.out.2.2.2.2 (by unfold maxLen;omega) (by omega) df ?_))
   intro v5 w5 aJ bU bI
   have HE:Hid (eF w5 w1.heap.size Z v5 (CU++c)/\af [] w1 w5):=by
    have hp:=HP.out.1.cat HP.out.2.1 BF.out bU HP.out.2.2.2 (by rw [uO.out];exact HY.out.2.1) (by rw [uO.out];exact aJ);refine ⟨hp.1,HP.out.2.2.1.then hp.2 fun k hk=>.inr ?_⟩;have dD:=Option.mem_toList.1 hk;exact (HP.out.2.2.2.lt k dD).1
   clear aJ bU bI;go_wp2_with fail
   go_roundg (LV.length-(i+1))
   case measure=>omega
   case rel=>exact ⟨i+1,rfl,by omega,by simp,by rw [HS.out];exact HE.out.1,HE.out.2⟩
  ·obtain rfl:i=LV.length:=by omega
   have fE:¬ ((LV.length:Int)<(LV.length:Int)):=by omega
   rw [List.take_length] at hT;have qE:=Lib.hid (And.intro hT (And.intro hU (HL.out.2.trans hU)));have d2:=qE.out.2.2.cell0 c2;have sU:=Lib.hid (jS m M p Z wr.drew ((HM.out.keep0 qE.out.2.2).keep0 (af.refl _ _).drew) (HZ.out _ qE.out.2.2.drew) (by have:=HF.out.hl;omega));clear hT hU;go_wp2_with fail
   go_region_held3 (fun w'=>w'.cell? ⟨m,2,none⟩=some (.slice oa M.order.length oc)) (first | exact d2 | exact HT.out.2.cell0 d2 | exact (HT.out.2.trans HN.out.2).cell0 d2 | exact ((HT.out.2.trans HN.out.2).trans HS.out.2).cell0 d2) (first | (go_at_call 132;refine sU.out.mono ?_;rintro e w3 hE;obtain ⟨cf,rfl,hT,hu⟩:=hE.ex;have HT:=Lib.hid (And.intro hT hu.of_drew);clear hE hT hu) | (go_at_call 123;refine (rP 0 _ M.order l _ (ah NS.out fun k hk=>(qE.out.2.2.trans HT.out.2).block k (NS.out.lt k hk).2 (by simp)) hl (by omega)).mono ?_;rintro e w4 hE;obtain ⟨tg,tc,rfl,hN,hu⟩:=hE.ex;have HN:=Lib.hid (And.intro hN hu);clear hE hN hu) | (go_at_call 131;refine (mG _ _ Z _ _ M.tabs (bD M.order l) M.n _ (HT.out.1.keep0 HN.out.2) (HZ.out _ ((qE.out.2.2.trans HT.out.2).trans HN.out.2)) (by omega) (fun t ht=>(HF.out.tn t ht).2) HF.out.n6 (by rw [iJ];exact HN.out.1) (by rw [iJ];exact zC) (fun x hx=>HF.out.on x (qM hl hx))).mono ?_;rintro e w5 hE;obtain ⟨cf2,rfl,hS,hu⟩:=hE.ex;rw [J3.out] at hS;obtain ⟨ba,bc,hbv,DD⟩:=hS.form;subst hbv;have HS:=Lib.hid (And.intro hS hu);clear hE hS hu))
   obtain ⟨xs1,J4⟩:=qE.out.1.row;have VO:=Lib.hid (And.intro (fun k (hk:u5.ownBlock=some k)=>(J4.lt k hk)) (And.intro (HT.out.2.trans HN.out.2).size (fun k (hk:u5.ownBlock=some k)=>bC (ah J4 fun k hk=>((HT.out.2.trans HN.out.2).trans HS.out.2).block k (J4.lt k hk).2 (by simp)) hk)));have HW:=Lib.hid (And.intro (qE.out.1.keep0 ((HT.out.2.trans HN.out.2).trans HS.out.2)) (And.intro HS.out.1 (((qE.out.2.2.trans HT.out.2).trans HN.out.2).trans HS.out.2)));have hsw:=HW.out.2.2.size;have uI:=HL.out.2.size;have dV:=Nat.le_trans qE.out.2.1.size ((HT.out.2.trans HN.out.2).trans HS.out.2).size;obtain ⟨SV,rfl⟩ : ∃ SV:Value,SV=u5:=⟨_,rfl⟩;clear qE HT HN HS sU d2;go_wp2_with fail
   go_loopg [5,31] A8.length (fun g s5 s31 wr=>∃ i:Nat,A8.length-i=g/\i<=A8.length/\s31=.int .i64 i/\eF wr w1.heap.size Z s5 (LV.flatten++(A8.take i).flatten)/\af SV.ownBlock.toList w5 wr/\(∀ k,s5.ownBlock=some k->SV.ownBlock=some k\/w5.heap.size<=k))
   case atStart=>exact ⟨0,by omega,by omega,rfl,by simpa using HW.out.1,af.refl _ _,fun k hk=>.inl hk⟩
   case round =>
    obtain ⟨i,rfl,hi,rfl,hT,hU,hB⟩:=hrel
    by_cases aZ:i<A8.length
    ·obtain ⟨c,hc⟩ : ∃ c,A8[i]?=some c:=⟨_,List.getElem?_eq_getElem aZ⟩
     obtain ⟨ga,rfl⟩:=DD (by omega);obtain ⟨cl,x0,yJ⟩:=(HW.out.2.1.far hU (fun k hk=>by have:=VO.out.1 k hk;have:=VO.out.2.1;omega) VO.out.2.2 (fun k hk ⟨z,hz⟩=>⟨z,hz,by have h1:=HZ.out w (af.refl _ _) z hz;have h2:=VO.out.1 k hk;omega⟩)).at_ hc;obtain ⟨A,cc,ys,VI,hA,aB,Jk,P9,hy1⟩:=yJ.src;subst VI;obtain ⟨xs,OC⟩:=hT.row;have FQ:=Nat.le_trans (kX A8 (i+1)) xG;have HS:=Lib.hid (mO hc);rw [HS.out,List.length_append] at FQ;have HP:=Lib.hid (And.intro hT (And.intro yJ (And.intro hU (And.intro OC hB))));have HY:=Lib.hid (And.intro hA (And.intro aB (And.intro Jk (And.intro P9 hy1))));have df:=hU.size
     have fE:(i:Int)<(A8.length:Int):=by omega
     have DF:(LV.flatten++(A8.take i).flatten).length+c.length<=270336000:=by rw [List.length_append];omega
     have HAS:Hid (LV.flatten++(A8.take (i+1)).flatten=LV.flatten++(A8.take i).flatten++c):=by
      show _=_
      rw [HS.out,List.append_assoc]
     generalize LV.flatten++(A8.take i).flatten=CU at *;generalize Ox:c.length=cn at *;have uO:=Lib.hid Ox;clear hT hU hc yJ OC hA aB Jk P9 hy1 Ox hB FQ
     go_wp2_with (at_builtin;go_must (refine fK rfl (.tmp 35) (.tmp 36) 22 rfl w1.heap.size 121 ti _ 2 32 Tryz.underlying22 HI.out.1 HI.out.2.1 HI.out.2.2.1 HI.out.2.2.2 (by rfl) (by decide) _ CU.length xs rfl HP.out.2.2.2.1 A cn cc ys rfl HY.out.1 HY.out.2.2.1 HY.out.2.2.2.1 HY.out.2.2.2.2 (by unfold maxLen;omega) (by omega) (by omega) ?_))
     intro v6 w6 aJ bU bI
     have HE:Hid (eF w6 w1.heap.size Z v6 (CU++c)/\af SV.ownBlock.toList w5 w6/\(∀ k,v6.ownBlock=some k->SV.ownBlock=some k\/w5.heap.size<=k)):=by
      have hp:=HP.out.1.cat HP.out.2.1 BF.out bU HP.out.2.2.2.1 (by rw [uO.out];exact HY.out.2.1) (by rw [uO.out];exact aJ);refine ⟨hp.1,HP.out.2.2.1.then hp.2 fun k hk=>?_,fun k hk=>?_⟩
      ·rcases HP.out.2.2.2.2 k (Option.mem_toList.1 hk) with h | h
       ·exact .inl (Option.mem_toList.2 h)
       ·exact .inr h
      ·rcases bI with e | e
       ·exact HP.out.2.2.2.2 k (by rw [<- e];exact hk)
       ·rw [hk] at e
        injection e with e
        right;omega
     clear aJ bU bI;go_wp2_with fail
     go_roundg (A8.length-(i+1))
     case measure=>omega
     case rel=>exact ⟨i+1,rfl,by omega,by simp,by rw [HAS.out];exact HE.out.1,HE.out.2⟩
    ·obtain rfl:i=A8.length:=by omega
     have fE:¬ ((A8.length:Int)<(A8.length:Int)):=by omega
     rw [List.take_length] at hT
     have VP:af [] w wr:=HW.out.2.2.then hU fun k hk=>.inr (by have:=VO.out.1 k (Option.mem_toList.1 hk);omega)
     have qE:=Lib.hid (And.intro hT VP);have FI:=Lib.hid (rM w1.heap.size Z _ (LV.flatten++A8.flatten) wr hT (HZ.out _ VP) (by rw [List.length_append];omega));clear hT hU hB VP;go_wp2_with fail;refine FI.out.mono ?_;rintro e w7 hE;obtain ⟨uv,rfl,hN,um⟩:=hE.ex;obtain ⟨na,nc,VE,_⟩:=hN.form;have Qc:=Lib.hid (qE.out.2.trans um);have hlb:=eG (LV.flatten++A8.flatten);rw [List.length_append] at hlb;rw [<- HD.out] at VE hlb;subst VE;clear hE hN um FI qE;go_wp2_with fail;go_ret;exact ⟨rfl,Qc.out⟩
theorem Tryz.infoHold:(Tryz.prog.info? 255).map (fun i=>(i.zero,i.size,i.bytes))=some (some (.agg #[.int .i64 0,.slice none 0 0,.int .i64 0]),3,40):=by kernel_rfl
structure gq (m:Nat) (p:aQ) (Z:List Nat) (M':MV) (w w':World):Prop where
 ex:∃ p',bZ w' m M' p' (Z++p'.all m)/\af (p.all m) w w'/\Sub (p.all m) w (p'.all m)
theorem gq.same {m:Nat} {M:MV} {p:aQ} {Z:List Nat} {w w':World} (h:bZ w m M p Z) (u:af [] w w'):gq m p Z M w w' :=
 ⟨p,(h.keep0 u).apart (fun k hk=>.inl (by rcases List.mem_append.1 hk with hk | hk;exact hk;exact h.sz k hk)) (fun k hk=>List.mem_append.2 (.inr hk)),u.mono (by simp),Sub.refl _ _⟩
def MV.exchE (M:MV) (l:Int):Int:=if l<0\/(M.n:Int)-2<l then 1 else if M.c<2+M.U l.toNat then 9 else 0
def MV.exch (M:MV) (l:Int):MV:=if M.exchE l=0 then { M with order:=bD M.order l.toNat,trail:=M.trail++[l.toNat] } else M
theorem MV.U_le {M:MV} (h:M.Fit) (l:Nat):M.U l<=270336000:=by
 have h1:=eG (M.lev.flatten++(dZ (aP M.tabs) (bD M.order l)).flatten);rw [List.length_append] at h1;have h2:=h.lev_leS;have h3:=h.turn_leS l
 unfold MV.U;omega
structure VQ (m:Nat) (M:MV) (p:aQ) (Z:List Nat) (l:Int) (w:World) (e:Ending) (w':World):Prop where
 ex:e=.returned (.int .i64 (M.exchE l))/\gq m p Z (M.exch l) w w'
theorem Eo (m:Nat) (M:MV) (p:aQ) (Z:List Nat) (l:Int) (w:World) (h:bZ w m M p Z) (hZ:∀ k,k∈Z->k<w.heap.size) (hf:M.Fit) (ho:M.order.length=M.n) (ht:M.trail.length<=1000000) :
  Calls Tryz.prog 55 #[.pointer (some ⟨m,0,none⟩),.int .i64 l] w fun e w'=>VQ m M p Z l w e w':=by
 obtain ⟨ti,dP,dX,dV,dW⟩:=info_parts Tryz.infoIntM;have HI:=Lib.hid (And.intro dP (And.intro dX (And.intro dV dW)));obtain ⟨oa,oc,jK,_⟩:=aC h.os;obtain ⟨ta,tc,RZ,_⟩:=aC h.ts;obtain ⟨c0,c1,c2,c3,c4⟩:=h.cells;rw [jK] at c2;rw [RZ] at c4;have lY:=h.os;rw [jK] at lY;have OD:=h.ts;rw [RZ] at OD;have NS:=Lib.hid lY;have UN:=Lib.hid OD;have HM:=Lib.hid h;have HV:=Lib.hid (And.intro jK RZ)
 have HZ:Hid (∀ x:World,af [] w x->∀ k,k∈Z->k<x.heap.size):=fun x u k hk=>Nat.lt_of_lt_of_le (hZ k hk) u.size
 have HF:=Lib.hid hf;have Yt:=hf.n6;have NR:=hf.cb;have HO:=Lib.hid ho;clear h hZ hf jK RZ lY OD dP dX dV dW c3
 by_cases sW:l<0
 ·have Qd:decide (l<0)=true:=by simpa using sW
  have HX:Hid (M.exchE l=1):=by show _=_;unfold MV.exchE;rw [if_pos (.inl sW)]
  clear ho
  go_enter Tryz.func55,Tryz.ntmps55
  go_wp2_with fail;go_ret;refine ⟨by rw [HX.out];rfl,?_⟩;rw [MV.exch,HX.out,if_neg (by decide)];exact gq.same HM.out (af.refl _ _)
 have Qd:decide (l<0)=false:=by simpa using sW
 have nO:IntKind.i64.wrap ((M.n:Int)-2)=(M.n:Int)-2:=IntWalk.i64_in _ (by omega)
 by_cases oW:(M.n:Int)-2<l
 ·have sZ:decide ((M.n:Int)-2<l)=true:=by simpa using oW
  have HX:Hid (M.exchE l=1):=by show _=_;unfold MV.exchE;rw [if_pos (.inr oW)]
  clear ho
  go_enter Tryz.func55,Tryz.ntmps55
  go_wp2_with fail;go_ret;refine ⟨by rw [HX.out];rfl,?_⟩;rw [MV.exch,HX.out,if_neg (by decide)];exact gq.same HM.out (af.refl _ _)
 have sZ:decide ((M.n:Int)-2<l)=false:=by simpa using oW
 obtain ⟨j,rfl⟩ : ∃ j:Nat,l=(j:Int):=⟨l.toNat,by omega⟩
 have hj:j+1<M.order.length:=by omega
 have hU:=MV.U_le HF.out j
 have Jm:Hid (∀ x:World,af [] w x->Calls Tryz.prog 64 #[.pointer (some ⟨m,0,none⟩),.int .i64 j] x fun e w'=>e=.returned (.int .i64 (M.U j:Nat))/\af [] x w'):=fun x u=>JZ m M p Z j x (HM.out.keep0 u) (HZ.out x u) HF.out hj
 have Yy:Hid (M.exchE j=if M.c<2+M.U j then 9 else 0):=by show _=_;unfold MV.exchE;rw [if_neg (by omega),Int.toNat_natCast]
 generalize M.U j=U at *;have eQ:IntKind.i64.wrap (2+(U:Int))=2+(U:Int):=IntWalk.i64_in _ (by omega)
 by_cases hc:M.c<2+U
 ·have Yz:decide ((M.c:Int)<2+(U:Int))=true:=by simp;omega
  have HX:Hid (M.exchE j=9):=by show _=_;rw [Yy.out,if_pos hc]
  clear hc ho
  go_enter Tryz.func55,Tryz.ntmps55
  go_wp2_with fail
  go_region_held3 (fun w'=>w'.cell? ⟨m,1,none⟩=some (.int .i64 M.c)) (first | exact c1 | exact HS.out.cell0 c1) (first | (go_at_call 64;refine (Jm.out _ (af.refl _ _).drew).mono ?_;rintro e w4 ⟨rfl,hu⟩;have HS:=Lib.hid hu.of_drew;clear hu))
  go_wp2_with fail;go_ret;refine ⟨by rw [HX.out];rfl,?_⟩;rw [MV.exch,HX.out,if_neg (by decide)];exact gq.same HM.out HS.out
 ·have Yz:decide ((M.c:Int)<2+(U:Int))=false:=by simp;omega
  have HX:Hid (M.exchE j=0):=by show _=_;rw [Yy.out,if_neg hc]
  clear hc ho
  go_enter Tryz.func55,Tryz.ntmps55
  go_wp2_with fail
  go_region_held3 (fun w'=>w'.cell? ⟨m,1,none⟩=some (.int .i64 M.c)) (first | exact c1 | exact HS.out.cell0 c1) (first | (go_at_call 64;refine (Jm.out _ (af.refl _ _).drew).mono ?_;rintro e w4 ⟨rfl,hu⟩;have HS:=Lib.hid hu.of_drew;clear hu))
  have d2:=HS.out.cell0 c2;have d4:=HS.out.cell0 c4;have Ji:=Lib.hid (rP 0 _ M.order j w4 (ah NS.out fun k hk=>HS.out.block k (NS.out.lt k hk).2 (by simp)) hj (by have:=HF.out.ol;omega));clear Yz eQ Qd sZ nO c0 c1 c2 c4;go_wp2_with fail;refine Ji.out.mono ?_;rintro e w5 hE;obtain ⟨tg,OE,rfl,hN,hu⟩:=hE.ex;have HN:=Lib.hid (And.intro hN hu);have mi:=(HS.out.trans hu).block m (aj HM.out.blk) (by simp);rw [HM.out.blk] at mi;have Si:w5.frozen? ⟨m,2,none⟩=false:=ak 2 mi;have e2:=hu.cell0 d2;have e4:=hu.cell0 d4;have dW:=aF (j:=2) mi (.slice (some ⟨tg,0,none⟩) M.order.length OE);have fz4:=ak 4 dW;have k4:(w5.setCell ⟨m,2,none⟩ (.slice (some ⟨tg,0,none⟩) M.order.length OE)).cell? ⟨m,4,none⟩=some (.slice ta M.trail.length tc):=ae dW (by rw [<- HV.out.2];rfl);have Sj:=Lib.hid (And.intro dW (HS.out.trans hu))
  have Qe:∀ k,(Value.slice ta M.trail.length tc).ownBlock=some k->k≠m:=fun k hk e=>by
   subst e;obtain ⟨c1,f1,e1⟩:=bC UN.out hk;have e2:=HM.out.blk;rw [e1] at e2
   injection e2 with e2
   injection e2 with _ e2 _
   exact absurd e2 (by decide)
  have VR:w5.ownsRow 0 3 1 (.slice ta M.trail.length tc) M.trail.length (aK M.trail):=ah UN.out fun k hk=>(HS.out.trans hu).block k (UN.out.lt k hk).2 (by simp)
  have UO:Hid ((w5.setCell ⟨m,2,none⟩ (.slice (some ⟨tg,0,none⟩) M.order.length OE)).ownsRow 0 3 1 (.slice ta M.trail.length tc) M.trail.length (aK M.trail)):=aV VR (fun e=>Qe m e.symm rfl) _
  have lH:Hid (∀ u,u∈[Value.int .i64 j]->u.oneCell'=true):=by intro u hu;simp at hu;subst hu;rfl
  have HMT:=Lib.hid Qe;clear hE hN hu d2 d4 mi dW Ji VR Qe
  go_wp2_with (at_builtin;go_must (refine wpList_append_lies _ rfl (.tmp 40) (.tmp 42) 23 rfl 0 3 ti _ 1 8 Tryz.underlying23 HI.out.1 HI.out.2.1 HI.out.2.2.1 HI.out.2.2.2 (by rfl) (by decide) _ M.trail.length (aK M.trail) rfl (UO.out.alloc _) ⟨w5.heap.size,0,none⟩ 1 1 [.int .i64 j] rfl rfl ?c1 lH.out (by omega) (by unfold maxLen;omega) (by omega) (by omega) _ rfl ?_))
  case c1=>exact World.news_of_block (by
   have:=heap_alloc_new (w5.setCell ⟨m,2,none⟩ (.slice (some ⟨tg,0,none⟩) M.order.length OE)) (.cells #[.int .i64 j] 3 (0,0))
   rw [World.size_setCell] at this;exact this)
  intro g6 cap w6 aJ bU bI VS
  have DI:w6.heap[m]?=some (.cells #[.int .i64 M.n,.int .i64 M.c,.slice (some ⟨tg,0,none⟩) M.order.length OE,p.hv,p.tv] 53 (0,0)):=by
   have hne:some m≠(Value.slice ta M.trail.length tc).ownBlock:=fun e=>HMT.out m e.symm rfl
   rw [bU.block m (by rw [World.size_alloc,World.size_setCell];have:=aj HM.out.blk;have:=Sj.out.2.size;omega) hne,Below.heap_alloc _ _ _ (aj Sj.out.1)];exact Sj.out.1
  have fz6:w6.frozen? ⟨m,4,none⟩=false:=ak 4 DI;have e6:w6.cell? ⟨m,4,none⟩=some p.tv:=ae DI rfl;have G8:=aF (j:=4) DI (.slice (some ⟨g6,0,none⟩) (M.trail.length+1) cap)
  have HE:Hid (gq m p Z { M with order:=bD M.order j,trail:=M.trail++[j] } w (w6.setCell ⟨m,4,none⟩ (.slice (some ⟨g6,0,none⟩) (M.trail.length+1) cap))):=by
   have UQ:=aj HM.out.blk;have hz5:=Sj.out.2.size;have hz4:=HS.out.size;have htg:=HN.out.1.lt tg rfl
   have Jn:∀ k,k∈m::(Value.slice ta M.trail.length tc).ownBlock.toList->k=m\/(Value.slice ta M.trail.length tc).ownBlock=some k:=fun k hk=>by
    rcases List.mem_cons.1 hk with h | h
    ·exact .inl h
    ·exact .inr (Option.mem_toList.1 h)
   have u6:af (m::(Value.slice ta M.trail.length tc).ownBlock.toList) w (w6.setCell ⟨m,4,none⟩ (.slice (some ⟨g6,0,none⟩) (M.trail.length+1) cap)):=by
    have a1:af (m::(Value.slice ta M.trail.length tc).ownBlock.toList) w w5:=Sj.out.2.mono (by simp);exact ((((a1.setCell (p:=⟨m,2,none⟩) (.inl (by simp)) _).alloc _).grown bU fun k hk=>.inl (by rw [hk];simp))).setCell (p:=⟨m,4,none⟩) (.inl (by simp)) _
   have OG:∀ k,(Value.slice ta M.trail.length tc).ownBlock=some k->k∈p.all m:=fun k hk=>aQ.mem.2 (.inr (.inr (.inr (by rw [HV.out.2];exact hk))))
   have YE:g6≠m/\tg≠g6/\((Value.slice ta M.trail.length tc).ownBlock=some g6\/w.heap.size<=g6):=by
    rcases bI with e | e
    ·have:=(UN.out.lt g6 e).2
     exact ⟨HMT.out g6 e,by omega,.inl e⟩
    ·exact ⟨by omega,by omega,.inr (by omega)⟩
   have df:∀ k,k∈p.all m->k∈Z:=HM.out.sz
   have aB:(w6.setCell ⟨m,4,none⟩ (.slice (some ⟨g6,0,none⟩) (M.trail.length+1) cap)).ownsRow 0 3 1 (.slice (some ⟨tg,0,none⟩) M.order.length OE) M.order.length (aK (bD M.order j)):=by
    have r5:=bW HN.out.1 (Nat.zero_le _);have r5':=aV r5 (a:=⟨m,2,none⟩) (by simp only [Value.ownBlock,ne_eq,Option.some.injEq];omega) (.slice (some ⟨tg,0,none⟩) M.order.length OE);refine aV (ah (r5'.alloc (.cells #[.int .i64 j] 3 (0,0))) fun k hk=>?_) (by simp only [Value.ownBlock,ne_eq,Option.some.injEq];omega) _
    simp only [Value.ownBlock,Option.some.injEq] at hk
    subst hk
    refine bU.block tg (by rw [World.size_alloc,World.size_setCell];omega) fun e=>?_
    have:=(UN.out.lt tg e.symm).2;omega
   refine ⟨⟨.slice (some ⟨tg,0,none⟩) M.order.length OE,p.hv,.slice (some ⟨g6,0,none⟩) (M.trail.length+1) cap⟩,⟨G8,by rw [iJ];exact aB,?_,?_,?_,fun k hk=>List.mem_append.2 (.inr hk)⟩,u6.mono fun k hk=>?_,fun k hk=>?_⟩
   ·refine (HM.out.hs.apart (Z':=Z++aQ.all ⟨.slice (some ⟨tg,0,none⟩) M.order.length OE,p.hv,.slice (some ⟨g6,0,none⟩) (M.trail.length+1) cap⟩ m) fun k hk=>?_).keep u6 (fun k hk=>?_) fun k hk hm=>?_
    ·rcases List.mem_append.1 hk with hk | hk
     ·exact .inl hk
     ·rcases aQ.mem.1 hk with rfl | h | h | h
      ·exact .inl (df _ (aQ.mem.2 (.inl rfl)))
      ·simp [Value.ownBlock] at h;subst h;right;omega
      ·exact .inl (df _ (aQ.mem.2 (.inr (.inr (.inl h)))))
      ·simp [Value.ownBlock] at h;subst h
       rcases YE.2.2 with h | h
       ·exact .inl (df _ (OG _ h))
       ·exact .inr h
    ·left
     rcases Jn k hk with rfl | h
     ·exact List.mem_append.2 (.inl (df _ (aQ.mem.2 (.inl rfl))))
     ·exact List.mem_append.2 (.inl (df _ (OG k h)))
    ·obtain ⟨xs,hr⟩:=HM.out.hs.row
     obtain ⟨c1,f1,e1⟩:=bC hr hk
     rcases Jn k hm with rfl | h
     ·rw [HM.out.blk] at e1
      injection e1 with e1
      injection e1 with _ e1 _
      exact absurd e1 (by decide)
     ·obtain ⟨c2,f2,e2⟩:=bC UN.out h
      rw [e1] at e2
      injection e2 with e2
      injection e2 with _ e2 _
      exact absurd e2 (by decide)
   ·have e:aK (M.trail++[j])=aK M.trail++[.int .i64 j]:=by simp [aK]
    show (w6.setCell _ _).ownsRow 0 _ 1 _ (M.trail++[j]).length _
    rw [List.length_append,List.length_singleton]
    show (w6.setCell _ _).ownsRow 0 _ 1 _ (M.trail.length+1) (aK (M.trail++[j]))
    rw [e];exact aV aJ (by simp only [Value.ownBlock,ne_eq,Option.some.injEq];exact fun e=>YE.1 e.symm) _
   ·intro k hk
    simp only [Value.ownBlock,Option.some.injEq] at hk ⊢
    subst hk
    exact fun e=>YE.2.1 (Option.some.inj e).symm
   ·rcases Jn k hk with rfl | h
    ·exact aQ.mem.2 (.inl rfl)
    ·exact OG k h
   ·rcases aQ.mem.1 hk with rfl | h | h | h
    ·exact .inl (aQ.mem.2 (.inl rfl))
    ·simp [Value.ownBlock] at h;subst h;right;omega
    ·exact .inl (aQ.mem.2 (.inr (.inr (.inl h))))
    ·simp [Value.ownBlock] at h;subst h
     rcases YE.2.2 with h | h
     ·exact .inl (OG _ h)
     ·exact .inr h
  clear aJ bU bI VS DI G8;go_wp2_with fail;go_ret;refine ⟨by rw [HX.out];rfl,?_⟩;rw [MV.exch,HX.out,if_pos rfl,Int.toNat_natCast];exact HE.out
end Go.Proofs.YtdackeldhdchaaaGreat
