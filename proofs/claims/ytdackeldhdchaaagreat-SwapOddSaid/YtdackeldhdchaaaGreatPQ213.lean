import Derived.Test.YtdackeldhdchaaaGreatPQ212
import Derived.Test.YtdackeldhdchaaaGreatPQ21
import Derived.BigRegion
set_option maxRecDepth 100000
set_option maxHeartbeats 3200000
namespace Go.Proofs.YtdackeldhdchaaaGreat
open Go.RowKit Go.Maps Go.ChangeMaps Go.WideShapes
theorem axK {w:World} {b1 b2:Nat} {e:TypeId} {sz n1 n2:Nat} {v:Value} {xs ys:List Value} (h1:w.ownsRow b1 e sz v n1 xs) (h2:w.ownsRow b2 e sz v n2 ys):n1=n2->xs=ys:=by
 intro hn
 subst hn;obtain ⟨e1,c1⟩:=h1;obtain ⟨e2,c2⟩:=h2
 rcases c1 with ⟨rfl,h0⟩ | ⟨g,anz,aMi,rfl,hg,hh,_,_,_,k1⟩
 ·rcases c2 with ⟨_,_⟩ | ⟨g,aiP,cur2,e,_⟩
  ·have a1:xs.length=0:=by rw [e1,h0];simp
   have a2:ys.length=0:=by rw [e2,h0];simp
   rw [List.length_eq_zero_iff.1 a1,List.length_eq_zero_iff.1 a2]
  ·simp at e
 ·rcases c2 with ⟨e,_⟩ | ⟨g',aiP,cur2,e,hg',hh',_,_,_,k2⟩
  ·simp at e
  ·simp at e
   obtain ⟨rfl,_⟩:=e
   rw [hh] at hh';cases hh'
   rw [<- k1,<- k2]
theorem aFl {L:List TV} {cs:List Value} (h:∀ c,c∈cs->c.oneCell'=true):∀ u,u∈agp L cs->u.oneCell'=true:=by
 intro u hu
 unfold agp at hu;obtain ⟨p,hp,hu⟩:=List.mem_flatMap.1 hu
 simp only [List.mem_cons,List.not_mem_nil,or_false] at hu
 rcases hu with rfl | rfl
 ·rfl
 ·exact h _ (List.of_mem_zip hp).2
theorem TLs.src {w:World} {n0:Nat} {Z:List Nat} {v:Value} {L:List TV} (h:TLs w n0 Z v L):∃ (A:Option Addr) (c:Nat) (ys:List Value),v=.slice A L.length c/\(A=none->L.length=0)/\w.ownsRow n0 121 2 v L.length ys/\ys.length=L.length*2 /\
  (∀ ad,A=some ad->∀ (j:Nat) u,ys[j]?=some u->w.cell? (ad.add j)=some u)/\∀ u,u∈ys->u.oneCell'=true:=by
 obtain ⟨cs,h1,h2,h3⟩:=h.ex;obtain ⟨a,c,hv,hh⟩:=abI h2;refine ⟨a,c,_,hv,?_,h2,h2.1,?_,aFl fun c hc=>?_⟩
 ·rintro rfl
  rcases hh with ⟨_,h0,_⟩ | ⟨g,hg⟩
  ·exact h0
  ·cases hg
 ·intro ad had j u hj
  rcases hh with ⟨h0,_⟩ | ⟨g,hg⟩
  ·rw [h0] at had;cases had
  ·rw [hg] at had;cases had
   rw [hg] at hv;exact h2.cells (g:=g) (by rw [hv];rfl) j u hj
 ·obtain ⟨i,hi⟩:=List.getElem?_of_mem hc
  have hil:i<L.length:=by
   by_cases e:i<cs.length
   ·omega
   ·rw [List.getElem?_eq_none (by omega)] at hi;cases hi
  obtain ⟨a,c',hv',_⟩:=ahV (h3 i _ c (List.getElem?_eq_getElem hil) hi).row
  rw [hv'];rfl
theorem TLs.cat {w w5:World} {n0 n1:Nat} {Z:List Nat} {v v2 v':Value} {L L2:List TV} (h:TLs w n0 Z v L) (h2:TLs w n1 Z v2 L2) (hZ:∀ k,k∈Z->k<n0) (hgr:w.grownBy w5 v.ownBlock) {xs ys:List Value}
  (abP:w.ownsRow n0 121 2 v L.length xs) (ar6:w.ownsRow n1 121 2 v2 L2.length ys) (ab3:w5.ownsRow n0 121 2 v' (L.length+L2.length) (xs++ys)) :
  TLs w5 n0 Z v' (L++L2)/\Upd v.ownBlock.toList w w5:=by
 obtain ⟨cs,a1,a2,a3⟩:=h.ex;obtain ⟨cs2,b1,b2,b3⟩:=h2.ex;obtain rfl:=axK abP a2 rfl;obtain rfl:=axK ar6 b2 rfl
 have hu:Upd v.ownBlock.toList w w5:=(Upd.refl _ w).grown hgr fun k hk=>.inl (by rw [hk];simp)
 have keep:∀ {u:TV} {d:Value},TIn w Z d u->TIn w5 Z d u:=fun {u d} hd=>⟨hd.ok,hd.row.kp fun k hk=>hu.block k (hd.row.lt k hk).2 fun hm=>by
  have hm':v.ownBlock=some k:=by simpa using hm
  obtain ⟨c1,f1,e1⟩:=acE a2 hm'
  exact hd.nb e1 (by decide) (fun ⟨z,hz⟩=>⟨z,hz,by have h1:=hZ z hz;have h2:=(a2.lt k hm').1;omega⟩) hk,hd.fr⟩
 refine ⟨⟨⟨cs++cs2,by simp [a1,b1],?_,fun i u d hu' hd=>?_⟩,fun k hk hm=>?_⟩,hu⟩
 ·have e:agp (L++L2) (cs++cs2)=agp L cs++agp L2 cs2:=by
   unfold agp;rw [List.zip_append a1.symm,List.flatMap_append]
  rw [e,List.length_append];exact ab3
 ·by_cases hi:i<L.length
  ·rw [List.getElem?_append_left hi] at hu'
   rw [List.getElem?_append_left (by omega)] at hd;exact keep (a3 i u d hu' hd)
  ·rw [List.getElem?_append_right (by omega)] at hu'
   rw [List.getElem?_append_right (by omega),a1] at hd;exact keep (b3 _ u d hu' hd)
 ·have h4:=(ab3.lt k hk).1
  have h5:=hZ k hm;omega
theorem ayy (m n0:Nat) (M:MV) (p:acd) (Z:List Nat) (v:Value) (L:List TV) (w:World) (h:aef w m M p Z) (hZ:∀ k,k∈Z->k<w.heap.size) (hf:M.Fit) (hv:TLs w n0 Z v L) (hL:∀ t,t∈L->t.n=M.n) (hl:L.length<=4194304) :
  Calls Tryz.prog 174 #[.pointer (some ⟨m,0,none⟩),v] w fun e w'=>e=.returned (.int .i64 ((ag9 L M.order).length:Nat))/\Upd [] w w':=by
 obtain ⟨oa,oc,hov,_⟩:=abI h.os;obtain ⟨_,_,c2,_,_⟩:=h.cells;rw [hov] at c2;have hos:=h.os;rw [hov] at hos;have HS:=Lib.hid (aFg n0 0 Z v _ L M.order M.n w hv hZ hl hL hf.n6 hos hf.ol hf.on);generalize (ag9 L M.order).length=S at *;clear h hZ hf hv hL hl hov hos
 go_enter Tryz.func174,Tryz.ntmps174
 go_wp2_with fail;refine HS.out.mono ?_;rintro e w1 ⟨rfl,hu⟩;have HU:=Lib.hid hu;clear hu HS;go_wp2_with fail;go_ret;exact ⟨rfl,HU.out⟩
theorem aHc {L:List TV} {o:List Nat} (ho:o.length<=8) (hl:L.length<=4194304):(ag9 L o).length<=8589934592:=aA2 ho (Nat.le_trans (ag8 L) hl)
def MV.fits (M:MV) (X:List TV):Bool:=decide (2+(ag9 (M.tabs++X) M.order).length<=M.c)
theorem aFm (m n0:Nat) (M:MV) (p:acd) (Z:List Nat) (v:Value) (X:List TV) (w:World) (h:aef w m M p Z) (hZ:∀ k,k∈Z->k<w.heap.size) (hf:M.Fit) (hv:TLs w n0 Z v X) (hX:∀ t,t∈X->t.n=M.n) (hl:X.length<=1000) :
  Calls Tryz.prog 119 #[.pointer (some ⟨m,0,none⟩),v] w fun e w'=>e=.returned (.bool (M.fits X))/\Upd [] w w':=by
 obtain ⟨ti,hi2,hz2,hs2,hb2⟩:=info_parts Tryz.infoTable;have HI:=Lib.hid (And.intro hi2 (And.intro hz2 (And.intro hs2 hb2)));obtain ⟨_,c1,_,_,_⟩:=h.cells;have HM:=Lib.hid h;have HF:=Lib.hid hf;have HV:=Lib.hid hv;have HX:=Lib.hid hX
 have HZ:Hid (∀ x:World,Upd [] w x->∀ k,k∈Z->k<x.heap.size):=fun x u k hk=>Nat.lt_of_lt_of_le (hZ k hk) u.size
 have htl:M.tabs.length<=65536:=by unfold MV.tabs;rw [List.length_map];exact hf.hl
 have HTB:=Lib.hid (anG m M p Z w h hZ (by have:=hf.hl;omega));obtain ⟨xa,xc,rfl,_⟩:=hv.form;clear h hZ hf hv hX hi2 hz2 hs2 hb2
 go_enter Tryz.func119,Tryz.ntmps119
 go_wp2_with fail;refine HTB.out.mono ?_;rintro e w1 hE;obtain ⟨cf,rfl,hT,hu⟩:=hE.ex;obtain ⟨A,c,ys,hcf,hA,abP,hyl,hyc,hy1⟩:=hT.src;have HT:=Lib.hid (And.intro hT hu);have HY:=Lib.hid (And.intro hA (And.intro abP (And.intro hyl (And.intro hyc hy1))));have hsz:=hu.size;subst hcf;clear hT hu hE HTB hA abP hyl hyc hy1
 go_wp2_with (at_builtin;go_must (refine agu rfl (.tmp 6) (.tmp 8) 22 rfl w.heap.size 121 ti _ 2 32 Tryz.underlying22 HI.out.1 HI.out.2.1 HI.out.2.2.1 HI.out.2.2.2 (by rfl) (by decide) (.slice none 0 0) 0 [] rfl (World.ownsRow_nil _ _ _ _) A M.tabs.length c ys rfl HY.out.1 HY.out.2.2.1 HY.out.2.2.2.1 HY.out.2.2.2.2 (by unfold maxLen;omega) (by omega) hsz ?_))
 intro v2 w2 ab3 hgr hat
 have hp:=(TLs.nil w1 w.heap.size Z).cat HT.out.1 (HZ.out w (Upd.refl _ _)) hgr (World.ownsRow_nil _ _ _ _) HY.out.2.1 (by rw [List.length_nil,Nat.zero_add,List.nil_append];exact ab3);rw [List.nil_append] at hp;have hu2:Upd [] w1 w2:=hp.2;obtain ⟨A2,c2',ys2,aVw,hA2,ar6,aVx,aVy,aVz⟩:=hp.1.src;obtain ⟨A3,c3',ys3,aVA,hA3,aNG,aRA,aRB,aRC⟩:=(HV.out.keep0 (HT.out.2.trans hu2)).src;cases aVA;subst aVw;have HT2:=Lib.hid (And.intro hp.1 (HT.out.2.trans hu2));have HY2:=Lib.hid ar6;have HY3:=Lib.hid (And.intro hA3 (And.intro aNG (And.intro aRA (And.intro aRB aRC))));have aFn:=HT2.out.2.size;clear ab3 hgr hat hp hu2 HY HT hA2 ar6 aVx aVy aVz hA3 aNG aRA aRB aRC
 go_wp2_with (at_builtin;go_must (refine agu rfl (.tmp 10) (.tmp 11) 22 rfl w.heap.size 121 ti _ 2 32 Tryz.underlying22 HI.out.1 HI.out.2.1 HI.out.2.2.1 HI.out.2.2.2 (by rfl) (by decide) _ M.tabs.length ys2 rfl HY2.out xa X.length xc ys3 rfl HY3.out.1 HY3.out.2.2.1 HY3.out.2.2.2.1 HY3.out.2.2.2.2 (by unfold maxLen;omega) (by omega) aFn ?_))
 intro v3 w3 ab3 hgr hat
 have hp:=HT2.out.1.cat (HV.out.keep0 HT2.out.2) (HZ.out w (Upd.refl _ _)) hgr HY2.out HY3.out.2.1 ab3
 have hu3:Upd [] w w3:=HT2.out.2.then hp.2 fun k hk=>.inr (by
  have hk':(Value.slice A2 M.tabs.length c2').ownBlock=some k:=by simpa using hk
  exact (HY2.out.lt k hk').1)
 have HU3:=Lib.hid hu3;have d1:=hu3.cell0 c1;have hbd:=aHc (L:=M.tabs++X) HF.out.ol (by rw [List.length_append];omega)
 have HSZ:=Lib.hid (ayy m w.heap.size M p Z v3 (M.tabs++X) w3.drew ((HM.out.keep0 hu3).keep0 (Upd.refl _ _).drew) (HZ.out _ hu3.drew) HF.out (hp.1.keep0 (Upd.refl _ _).drew) (fun t ht=>by
  rcases List.mem_append.1 ht with ht | ht
  ·exact (HF.out.tn t ht).2
  ·exact HX.out t ht) (by rw [List.length_append];omega))
 obtain ⟨A4,c4',rfl,_⟩:=hp.1.form;have HFT:Hid (M.fits X=decide (2+(ag9 (M.tabs++X) M.order).length<=M.c)):=rfl;have hcb:=HF.out.cb;generalize (ag9 (M.tabs++X) M.order).length=S at *;generalize (M.tabs++X).length=TL at *;clear ab3 hgr hat hp hu3 HY2 HY3 HT2 c1;have hw2:IntKind.i64.wrap (2+(S:Int))=2+(S:Int):=IntWalk.i64_in _ (by omega);go_wp2_with fail
 go_region_held3 (fun w'=>w'.cell? ⟨m,1,none⟩=some (.int .i64 M.c)) (first | exact d1 | exact HS.out.cell0 d1) (first | (go_at_call 174;refine HSZ.out.mono ?_;rintro e w4 ⟨rfl,hu⟩;have HS:=Lib.hid hu.of_drew;clear hu))
 clear hw2;go_wp2_with fail;go_ret
 exact ⟨aJf (by
  rw [HFT.out,Bool.eq_iff_iff]
  simp only [decide_eq_true_eq]
  omega),HU3.out.trans HS.out⟩
def TV.isC (t:TV):Bool:=decide (t=amA t.n false)||decide (t=amA t.n true)
theorem aCb (Z:List Nat) (c:Value) (t:TV) (w:World) (h:TIn w Z c t) (hZ:∀ k,k∈Z→k < w.heap.size) :
    Calls Tryz.prog 175 #[aeH t c] w fun e w'=>e=.returned (.bool t.isC)∧Upd [] w w':=by
  obtain ⟨fa,ca,hca,_⟩:=ahV h.row;subst hca;have h16:=h.ok.n16
  have HX:Hid (∀ x:World,Upd [] w x→TIn x Z (.slice fa t.ws.length ca) t):=fun x u=>h.keep0 u
  have HZ:Hid (∀ x:World,Upd [] w x→∀ k,k∈Z→k < x.heap.size):=fun x u k hk=>Nat.lt_of_lt_of_le (hZ k hk) u.size
  have HU0:=Lib.hid (((Upd.refl [] w).alloc (.cells #[.int .i64 t.n,.slice fa t.ws.length ca] 121 (0,0))).drew);have hb:=alC w (.int .i64 t.n) (.slice fa t.ws.length ca)
  have HSM:Hid (∀ (x:World) (d:Value) (u:TV),Upd [] w x→TIn x Z d u→Calls Tryz.prog 122 #[.agg #[.int .i64 t.n,.slice fa t.ws.length ca],aeH u d] x fun e w'=>e=.returned (.bool (decide (t=u)))∧Upd [] x w'):=fun x d u hx hd=>ajX Z _ d t u x (h.keep0 hx) hd
  have HD:Hid (t.isC=(decide (t=amA t.n false) || decide (t=amA t.n true))):=rfl;unfold aeH;generalize t.ws.length=L at *;generalize hn:t.n=n at *;obtain ⟨b0,b1⟩:=hb
  have HK:Hid (∀ x:World,Upd [] (w.alloc (.cells #[.int .i64 n,.slice fa L ca] 121 (0,0))).drew x→x.cell? ⟨w.heap.size,0,none⟩=some (.int .i64 n)∧x.cell? ⟨w.heap.size,1,none⟩=some (.slice fa L ca)):=fun x u=>aer (Upd.of_drew u) ⟨b0,b1⟩
  clear h hZ hn
  by_cases e1:t=amA n false
  · have E1:Hid (decide (t=amA n false)=true):=decide_eq_true e1
    clear e1
    go_enter Tryz.func175,Tryz.ntmps175
    go_wp2_with fail;refine ahs (fun w'=>w'.cell? ⟨w.heap.size,0,none⟩=some (.int .i64 n)∧w'.cell? ⟨w.heap.size,1,none⟩=some (.slice fa L ca)) (fun _=>True) [] (by kernel_rfl) ?_;have hS:=HK.out _ (Upd.refl [] _);refine afc (i:=0) (v:=?v1) rfl (by kernel_rfl) (by kernel_rfl) (by kernel_rfl) (by kernel_rfl) (fun _ _ _ h=>h) (Or.inl ⟨by rfl,?hy1⟩) hS (fun _=>trivial) ?rest1
    case hy1=>(intro x hSx; (try dsimp only at hSx); go_simp; try with_reducible rfl)
    (try simp only [Act.put,List.setIfInBounds_toArray])
    refine afc (i:=1) (v:=?v2) rfl (by kernel_rfl) (by kernel_rfl) (by kernel_rfl) (by kernel_rfl) (fun _ _ _ h=>h) (Or.inl ⟨by rfl,?hy2⟩) hS (fun _=>trivial) ?rest2
    case hy2=>(intro x hSx; (try dsimp only at hSx); go_simp; try with_reducible rfl)
    (try simp only [Act.put])
    refine afc (i:=2) (v:=?v3) rfl (by kernel_rfl) (by kernel_rfl) (by kernel_rfl) (by kernel_rfl) (fun _ _ _ h=>h) (Or.inl ⟨by rfl,?hy3⟩) hS (fun _=>trivial) ?rest3
    case hy3=>(intro x hSx; (try dsimp only at hSx); go_simp; try with_reducible rfl)
    (try simp only [Act.put])
    refine abZ (rs:=[3]) (by kernel_rfl) (by simp) ?_;refine aa7.cons rfl (fun K hK=>?_) ?_
    rotate_left
    exact aa7.nil
    go_simp
    (go_at_call 90; refine (aqY n false _ h16).mono ?_; rintro e w3 hE; obtain ⟨cf,rfl,hT,hu⟩:=hE.ex; have HF:=Lib.hid (And.intro hT hu); clear hE hT hu)
    go_wp2_with fail;refine hK.out _ _ ⟨HK.out _ HF.out.2,fun _=>trivial⟩ (fun hHeld=>?_);clear hK K hS;have hS:=hHeld.1;clear hHeld
    (try simp only [Act.put,List.setIfInBounds_toArray,List.set_cons_zero,List.set_cons_succ])
    refine abZ (rs:=[4]) (by kernel_rfl) (by simp) ?_;refine aa7.cons rfl (fun K hK=>?_) ?_
    rotate_left
    exact aa7.nil
    go_simp
    (go_at_call 122; refine (HSM.out _ _ _ (HU0.out.trans HF.out.2) ((HF.out.1.base HU0.out.size).tin (HZ.out w (Upd.refl _ _)))).mono ?_; rintro e w5 ⟨rfl,hu⟩; rw [E1.out]; have HS1:=Lib.hid hu; clear hu)
    go_wp2_with fail;refine hK.out _ _ ⟨HK.out _ (HF.out.2.trans HS1.out),fun _=>trivial⟩ (fun hHeld=>?_);clear hK K hS;have hS:=hHeld.1;clear hHeld
    (try simp only [Act.put,List.setIfInBounds_toArray,List.set_cons_zero,List.set_cons_succ])
    refine afc (i:=5) (v:=?v4) rfl (by kernel_rfl) (by kernel_rfl) (by kernel_rfl) (by kernel_rfl) (fun _ _ _ h=>h) (Or.inl ⟨by rfl,?hy4⟩) hS (fun _=>trivial) ?rest4
    case hy4=>(intro x hSx; (try dsimp only at hSx); go_simp; try with_reducible rfl)
    (try simp only [Act.put,List.setIfInBounds_toArray])
    refine afc (i:=6) (v:=undef) rfl (by kernel_rfl) (by kernel_rfl) (by kernel_rfl) (by kernel_rfl) (fun _ _ _ h=>h) (Or.inr ⟨by rfl,rfl⟩) hS (fun _=>trivial) ?rest5
    (try simp only [Act.put])
    refine afc (i:=7) (v:=undef) rfl (by kernel_rfl) (by kernel_rfl) (by kernel_rfl) (by kernel_rfl) (fun _ _ _ h=>h) (Or.inr ⟨by rfl,rfl⟩) hS (fun _=>trivial) ?rest6
    (try simp only [Act.put])
    refine afc (i:=8) (v:=undef) rfl (by kernel_rfl) (by kernel_rfl) (by kernel_rfl) (by kernel_rfl) (fun _ _ _ h=>h) (Or.inr ⟨by rfl,rfl⟩) hS (fun _=>trivial) ?rest7
    (try simp only [Act.put])
    refine afc (i:=9) (v:=undef) rfl (by kernel_rfl) (by kernel_rfl) (by kernel_rfl) (by kernel_rfl) (fun _ _ _ h=>h) (Or.inr ⟨by rfl,rfl⟩) hS (fun _=>trivial) ?rest8
    (try simp only [Act.put])
    refine afc (i:=10) (v:=undef) rfl (by kernel_rfl) (by kernel_rfl) (by kernel_rfl) (by kernel_rfl) (fun _ _ _ h=>h) (Or.inr ⟨by rfl,rfl⟩) hS (fun _=>trivial) ?rest9
    (try simp only [Act.put])
    refine abZ (rs:=[11]) (by kernel_rfl) (by simp) ?_;refine aa7.cons rfl (fun K hK=>?_) ?_
    rotate_left
    exact aa7.nil
    go_simp
    refine hK.out _ _ ⟨hS,fun _=>trivial⟩ (fun hHeld=>?_);clear hK K hHeld
    (try simp only [Act.put,List.setIfInBounds_toArray,List.set_cons_zero,List.set_cons_succ])
    refine abZ (rs:=[12]) (by kernel_rfl) (by simp) ?_;refine aa7.cons rfl (fun K hK=>?_) ?_
    rotate_left
    exact aa7.nil
    go_simp
    refine hK.out _ _ ⟨hS,fun _=>trivial⟩ (fun hHeld=>?_);clear hK K hHeld
    (try simp only [Act.put,List.setIfInBounds_toArray,List.set_cons_zero,List.set_cons_succ])
    refine afM (by kernel_rfl) ?_ _
    all_goals (
      go_wp2_with fail;go_ret
      exact ⟨by rw [HD.out,E1.out]; rfl,(HU0.out.trans HF.out.2).trans HS1.out⟩)
  · have E1:Hid (decide (t=amA n false)=false):=decide_eq_false e1
    clear e1
    go_enter Tryz.func175,Tryz.ntmps175
    go_wp2_with fail
    first | (go_region_held3 (fun w' => w'.cell? ⟨w.heap.size, 0, none⟩ = some (.int .i64 n) ∧ w'.cell? ⟨w.heap.size, 1, none⟩ = some (.slice fa L ca)) (first | exact ⟨b0, b1⟩ | exact HK.out _ HF.out.2 | exact HK.out _ (HF.out.2.trans HS1.out) | exact HK.out _ ((HF.out.2.trans HS1.out).trans HT.out.2) | exact HK.out _ (((HF.out.2.trans HS1.out).trans HT.out.2).trans HS2.out)) (first | (go_at_call_of 90 (Value.bool false); refine (aqY n false _ h16).mono ?_; rintro e w3 hE; obtain ⟨cf, rfl, hT, hu⟩ := hE.ex; have HF := Lib.hid (And.intro hT hu); clear hE hT hu) | (go_at_call_of 90 (Value.bool true); refine (aqY n true _ h16).mono ?_; rintro e w4 hE; obtain ⟨ct, rfl, hT, hu⟩ := hE.ex; have HT := Lib.hid (And.intro hT hu); clear hE hT hu) | (go_at_call 122; refine (HSM.out _ _ _ ((HU0.out.trans (HF.out.2.trans HS1.out)).trans HT.out.2) ((HT.out.1.base ((HU0.out.trans HF.out.2).trans HS1.out).size).tin (HZ.out w (Upd.refl _ _)))).mono ?_; rintro e w6 ⟨rfl, hu⟩; have HS2 := Lib.hid hu; clear hu) | (go_at_call 122; refine (HSM.out _ _ _ (HU0.out.trans HF.out.2) ((HF.out.1.base HU0.out.size).tin (HZ.out w (Upd.refl _ _)))).mono ?_; rintro e w5 ⟨rfl, hu⟩; rw [E1.out]; have HS1 := Lib.hid hu; clear hu))) | fail "held3"
    go_wp2_with fail;go_ret;exact ⟨by rw [HD.out,E1.out]; rfl,(HU0.out.trans ((HF.out.2.trans HS1.out).trans HT.out.2)).trans HS2.out⟩
theorem MV.Fit.lev_len {M:MV} (h:M.Fit):M.lev.length<=8:=by unfold MV.lev;rw [aqV];exact h.ol
def ah7:List (TV × Nat)->TV->Nat
 | [],_=>0
 | h::H,t=>if h.1=t then h.2 else ah7 H t
def MV.holds (M:MV) (t:TV):Nat:=ah7 M.held t
theorem ayz:∀ {H:List (TV × Nat)} {t:TV} {i:Nat} {u:TV × Nat},H[i]?=some u->u.1=t->(∀ h,h∈H.take i->h.1≠t)->ah7 H t=u.2
 | [],_,_,_,h,_,_=>by simp at h
 | a::H,t,0,u,h,e,_=>by simp at h;subst h;simp [ah7,e]
 | a::H,t,i+1,u,h,e,hno=>by
  have h1:a.1≠t:=hno a (by simp)
  simp only [ah7,if_neg h1]
  exact ayz (i:=i) (by simpa using h) e fun b hb=>hno b (by simp [hb])
theorem ayA:∀ {H:List (TV × Nat)} {t:TV},(∀ h,h∈H->h.1≠t)->ah7 H t=0
 | [],_,_=>rfl
 | a::H,t,hno=>by
  simp only [ah7,if_neg (hno a (by simp))]
  exact ayA fun b hb=>hno b (by simp [hb])
theorem ayB (m:Nat) (M:MV) (p:acd) (Z:List Nat) (c:Value) (t:TV) (w:World) (h:aef w m M p Z) (ht:TIn w Z c t) (hl:M.held.length<=4194304) :
  Calls Tryz.prog 118 #[.pointer (some ⟨m,0,none⟩),aeH t c] w fun e w'=>e=.returned (.int .i64 (M.holds t:Nat))/\Upd [] w w':=by
 obtain ⟨ta,tc,rfl,_⟩:=ahV ht.row;obtain ⟨fa,fc,hfv,hfa⟩:=h.hs.form;obtain ⟨_,_,_,c3,_⟩:=h.cells;rw [hfv] at c3;have hs:=h.hs;rw [hfv] at hs;have HL:=Lib.hid hs;have HT:=Lib.hid ht;have HU0:=Lib.hid ((Upd.refl [] w).alloc (.cells #[.int .i64 t.n,.slice ta t.ws.length tc] 121 (0,0)));have hb:=alC w (.int .i64 t.n) (.slice ta t.ws.length tc)
 have HSM:Hid (∀ (x:World) (d:Value) (u:TV),Upd [] w x->TIn x Z d u->Calls Tryz.prog 122 #[aeH u d,aeH t (.slice ta t.ws.length tc)] x fun e w'=>e=.returned (.bool (decide (u=t)))/\Upd [] x w'):=fun x d u hx hd=>ajX Z d _ u t x hd (ht.keep0 hx)
 have HD:Hid (M.holds t=ah7 M.held t):=rfl;have d3:=HU0.out.cell0 c3;unfold aeH at HSM ⊢;generalize t.ws.length=W at *;generalize t.n=n at *;obtain ⟨b0,b1⟩:=hb
 have HB:Hid (∀ x:World,Upd [] (w.alloc (.cells #[.int .i64 n,.slice ta W tc] 121 (0,0))) x->x.cell? ⟨w.heap.size,0,none⟩=some (.int .i64 n)/\x.cell? ⟨w.heap.size,1,none⟩=some (.slice ta W tc)):=fun x u=>aer u ⟨b0,b1⟩
 generalize M.held=H at *;clear h hfv hs ht b0 b1 c3
 go_enter Tryz.func118,Tryz.ntmps118
 go_wp2_with fail
 go_loopg [12] H.length (fun g s12 wr=>∃ i:Nat,H.length-i=g/\i<=H.length/\s12=.int .i64 i/\(∀ h,h∈H.take i->h.1≠t)/\Upd [] (w.alloc (.cells #[.int .i64 n,.slice ta W tc] 121 (0,0))) wr)
 case atStart=>exact ⟨0,by omega,by omega,rfl,by simp,Upd.refl _ _⟩
 case round =>
  obtain ⟨i,rfl,hi,rfl,hno,hU⟩:=hrel
  by_cases hlt:i<H.length
  ·obtain ⟨u,hu⟩ : ∃ u,H[i]?=some u:=⟨_,List.getElem?_eq_getElem hlt⟩
   obtain ⟨ga,rfl⟩:=hfa (by omega);have hUw:=HU0.out.trans hU;obtain ⟨cu,x0,x1,x2,htu⟩:=(HL.out.keep hUw (by simp) (by simp)).at_ hu;obtain ⟨ua,uc,hcu,_⟩:=ahV htu.row;subst hcu
   have hil:(i:Int)<(H.length:Int):=by omega
   obtain ⟨z0,z1,z2⟩:=aRy wr (.int .i64 u.1.n) (.slice ua u.1.ws.length uc) (.int .i64 u.2);have hUB:=(Upd.refl [] wr).alloc (.cells #[.int .i64 u.1.n,.slice ua u.1.ws.length uc,.int .i64 u.2] 255 (0,0));obtain ⟨y0,y1⟩:=HB.out _ (hU.trans hUB);have HS1:=Lib.hid (HSM.out _ _ u.1 (hUw.trans hUB) (htu.keep0 hUB));have HN:=Lib.hid (And.intro hu (And.intro hno (hUB)));have HUr:=Lib.hid hU;have HZB:Hid ((wr.alloc (.cells #[.int .i64 u.1.n,.slice ua u.1.ws.length uc,.int .i64 u.2] 255 (0,0))).cell? ⟨wr.heap.size,2,none⟩=some (.int .i64 u.2)):=z2;obtain ⟨q,k⟩:=u
   simp only at *
   generalize q.ws.length=UW at *;generalize q.n=un at *;clear hu htu hno hU hUw hUB;go_wp2_with fail;refine HS1.out.mono ?_;rintro e w5 ⟨rfl,hu5⟩;have k2:=hu5.cell0 HZB.out;have HU5:=Lib.hid (HUr.out.trans (HN.out.2.2.trans hu5));clear hu5 HS1 x0 x1 x2 y0 y1 z0 z1 z2 HZB
   by_cases he:q=t
   ·rw [decide_eq_true he]
    have HE:Hid (M.holds t=k):=by show _=k;rw [HD.out];exact ayz HN.out.1 he HN.out.2.1
    clear he;go_wp2_with fail;go_ret;exact ⟨aMq (congrArg _ HE.out.symm),HU0.out.trans HU5.out⟩
   ·rw [decide_eq_false he]
    have HE:Hid (∀ h,h∈H.take (i+1)->h.1≠t):=fun h hh=>by
     rw [List.take_add_one,HN.out.1] at hh
     rcases List.mem_append.1 hh with hh | hh
     ·exact HN.out.2.1 h hh
     ·simp at hh;subst hh;exact he
    clear he k2;go_wp2_with fail
    go_roundg (H.length-(i+1))
    case measure=>omega
    case rel=>exact ⟨i+1,rfl,by omega,by simp,HE.out,HU5.out⟩
  ·obtain rfl:i=H.length:=by omega
   have hil:¬ ((H.length:Int)<(H.length:Int)):=by omega
   have HE:Hid (M.holds t=0/\Upd [] w wr):=⟨by rw [HD.out];exact ayA (by rw [List.take_length] at hno;exact hno),HU0.out.trans hU⟩;clear hno hU;go_wp2_with fail;go_ret;exact ⟨by rw [HE.out.1];rfl,HE.out.2⟩
theorem Tryz.infoIntM:(Tryz.prog.info? 3).map (fun i=>(i.zero,i.size,i.bytes))=some (some (.int .i64 0),1,8):=by kernel_rfl
def adL (o:List Nat) (l:Nat):List Nat:=(o.set l (o.getD (l+1) 0)).set (l+1) (o.getD l 0)
theorem air (o:List Nat) (l:Nat):(adL o l).length=o.length:=by simp [adL]
theorem arv {o:List Nat} {l x:Nat} (hl:l+1<o.length) (h:x∈adL o l):x∈o:=by
 unfold adL at h
 have m0:o.getD l 0∈o:=by rw [List.getD_eq_getElem?_getD,List.getElem?_eq_getElem (by omega)];exact List.getElem_mem _
 have m1:o.getD (l+1) 0∈o:=by rw [List.getD_eq_getElem?_getD,List.getElem?_eq_getElem (by omega)];exact List.getElem_mem _
 rcases aml h with h | h
 ·rcases aml h with h | h
  ·exact h
  ·rw [h];exact m1
 ·rw [h];exact m0
structure aRD (o:List Nat) (l:Nat) (w:World) (e:Ending) (w':World):Prop where
 ex:∃ g c:Nat,e=.returned (.slice (some ⟨g,0,none⟩) o.length c)/\w'.ownsRow w.heap.size 3 1 (.slice (some ⟨g,0,none⟩) o.length c) o.length (acf (adL o l))/\Upd [] w w'
theorem ayC (l:List Nat) (r n:Nat):(acf l).set r (.int .i64 n)=acf (l.set r n):=by simp [acf,List.map_set]
theorem auf {w:World} {base g n' c n:Nat} {l:List Nat} (h:w.ownsRow base 3 1 (.slice (some ⟨g,0,none⟩) n' c) n (acf l)) {j:Nat} (hj:j<l.length):w.cell? ⟨g,j,none⟩=some (.int .i64 (l.getD j 0:Nat)):=by
 refine abf h ?_
 rw [acf,List.getElem?_map,List.getElem?_eq_getElem hj,List.getD_eq_getElem?_getD,List.getElem?_eq_getElem hj];rfl
theorem aHe {w:World} {base g c n:Nat} {o:List Nat} {l:Nat} (h:w.ownsRow base 3 1 (.slice (some ⟨g,0,none⟩) n c) n (acf o)) (hl:l+1<n) :
  ((w.setCell ⟨g,l,none⟩ (.int .i64 (o.getD (l+1) 0:Nat))).setCell ⟨g,l+1,none⟩ (.int .i64 (o.getD l 0:Nat))).ownsRow base 3 1 (.slice (some ⟨g,0,none⟩) n c) n (acf (adL o l)):=by
 have h1:=ae1 h (j:=l) (by omega) (.int .i64 (o.getD (l+1) 0:Nat));rw [ayC] at h1;have h2:=ae1 h1 (j:=l+1) (by omega) (.int .i64 (o.getD l 0:Nat));rw [ayC] at h2;exact h2
theorem av9 (b0:Nat) (v:Value) (o:List Nat) (l:Nat) (w:World) (h:w.ownsRow b0 3 1 v o.length (acf o)) (hl:l+1<o.length) (ho:o.length<=64) :
  Calls Tryz.prog 123 #[v,.int .i64 l] w fun e w'=>aRD o l w e w':=by
 obtain ⟨ti,hi2,hz2,hs2,hb2⟩:=info_parts Tryz.infoIntM;have HI:=Lib.hid (And.intro hi2 (And.intro hz2 (And.intro hs2 hb2)))
 obtain ⟨g0,c0,rfl⟩ : ∃ g0 c0,v=.slice (some ⟨g0,0,none⟩) o.length c0:=by
  obtain ⟨a,c,hv,_⟩:=abI h;rw [hv] at h;obtain ⟨g,rfl⟩:=aeP h (by omega);exact ⟨g,c,hv⟩
 have HW:=Lib.hid h
 have HL1:Hid (∀ u,u∈acf o->u.oneCell'=true):=by intro u hu;simp [acf] at hu;obtain ⟨x,_,rfl⟩:=hu;rfl
 have aVB:Hid ((acf o).length=o.length*1):=by show _=_;simp [acf]
 clear h hi2 hz2 hs2 hb2
 go_enter Tryz.func123,Tryz.ntmps123
 go_wp2_with (at_builtin;go_must (refine wpList_append_lies _ rfl (.tmp 6) (.tmp 7) 23 rfl w.heap.size 3 ti _ 1 8 Tryz.underlying23 HI.out.1 HI.out.2.1 HI.out.2.2.1 HI.out.2.2.2 (by rfl) (by decide) _ 0 [] rfl (World.ownsRow_nil _ _ _ _) ⟨g0,0,none⟩ o.length c0 (acf o) rfl aVB.out ?c1 HL1.out (by omega) (by unfold maxLen;omega) (by omega) (by omega) _ rfl ?_))
 case c1=>exact fun j u hj=>HW.out.cells (g:=g0) rfl j u hj
 intro g5 cap w5 ab3 hgr hat ajb
 have hup:Upd [] w w5:=(Upd.refl [] w).grown hgr (by simp [Value.ownBlock]);have e0:=auf ab3 (j:=l) (by omega);have e1:=auf ab3 (j:=l+1) (by omega);have f0:=aci ab3 l;have f1:=aci ab3 (l+1);have hE:=aHe ab3 hl;have HE:=Lib.hid (And.intro hE (And.intro hup (ab3.lt g5 rfl).1));generalize o.getD l 0=X at *;generalize o.getD (l+1) 0=Y at *
 have hb0:(l:Int)<(o.length:Int):=by omega
 have hb1:(l:Int)+1<(o.length:Int):=by omega
 have hw1:IntKind.i64.wrap ((l:Int)+1)=(l:Int)+1:=IntWalk.i64_in _ (by omega)
 have hn1:((l:Int)+1).toNat=l+1:=by omega
 have hp1:(0:Int)<=(l:Int)+1:=by omega
 clear ab3 hgr hat ajb hup hE;go_wp2_with fail
 go_region
 go_wp2_with fail;go_ret;exact ⟨g5,cap,rfl,HE.out.1,((HE.out.2.1.setCell (p:=⟨g5,l,none⟩) (.inr HE.out.2.2) _).setCell (p:=⟨g5,l+1,none⟩) (.inr HE.out.2.2) _).drew⟩
def MV.U (M:MV) (l:Nat):Nat:=(acw (M.lev.flatten++(ag5 (acw M.tabs) (adL M.order l)).flatten)).length
theorem MV.Fit.tl {M:MV} (h:M.Fit):M.tabs.length<=65536:=by unfold MV.tabs;rw [List.length_map];exact h.hl
theorem MV.Fit.lev_leS {M:MV} (h:M.Fit):M.lev.flatten.length<=135168000 :=
 aA3 h.ol (by have:=ag8 M.tabs;have:=h.tl;omega)
theorem MV.Fit.turn_leS {M:MV} (h:M.Fit) (l:Nat):(ag5 (acw M.tabs) (adL M.order l)).flatten.length<=135168000 :=
 aA3 (by rw [air];exact h.ol) (by have:=ag8 M.tabs;have:=h.tl;omega)
theorem aqZ {L:List (List TV)} {i:Nat} {l:List TV} (h:L[i]?=some l):(L.take (i+1)).flatten=(L.take i).flatten++l:=by
 rw [List.take_add_one,h];simp [List.flatten_append]
theorem TLs.far {w w':World} {n0:Nat} {Z:List Nat} {v:Value} {L:List TV} (h:TLs w n0 Z v L) {k0:Option Nat} (u:Upd k0.toList w w') (hn:∀ k,k0=some k->k<n0) (ht:∀ k,k0=some k->∃ cs fr,w.heap[k]?=some (.cells cs 121 fr)) (hz:∀ k,k0=some k->(∃ z,z∈Z)->∃ z,z∈Z/\z<=k):TLs w' n0 Z v L:=by
 obtain ⟨cs,h1,h2,h3⟩:=h.ex;refine ⟨⟨cs,h1,aaX h2 fun k hk=>u.block k (h2.lt k hk).2 fun hm=>?_,fun i t c hi hc=>?_⟩,h.fr⟩
 ·have h4:=hn k (Option.mem_toList.1 hm)
  have h5:=(h2.lt k hk).1;omega
 ·have h6:=h3 i t c hi hc
  refine ⟨h6.ok,h6.row.kp fun k hk=>u.block k (h6.row.lt k hk).2 fun hm=>?_,h6.fr⟩;obtain ⟨c1,f1,e1⟩:=ht k (Option.mem_toList.1 hm);exact h6.nb e1 (by decide) (hz k (Option.mem_toList.1 hm)) hk
theorem TLL.far {w w':World} {n0:Nat} {Z:List Nat} {v:Value} {L:List (List TV)} (h:TLL w n0 Z v L) {k0:Option Nat} (u:Upd k0.toList w w') (hn:∀ k,k0=some k->k<n0) (ht:∀ k,k0=some k->∃ cs fr,w.heap[k]?=some (.cells cs 121 fr)) (hz:∀ k,k0=some k->(∃ z,z∈Z)->∃ z,z∈Z/\z<=k):TLL w' n0 Z v L:=by
 obtain ⟨cs,h1,h2,h3⟩:=h.ex;refine ⟨⟨cs,h1,aaX h2 fun k hk=>u.block k (h2.lt k hk).2 fun hm=>?_,fun i t c hi hc=>(h3 i t c hi hc).far u hn ht hz⟩,h.fr⟩;have h4:=hn k (Option.mem_toList.1 hm);have h5:=(h2.lt k hk).1;omega
theorem aPa (m:Nat) (M:MV) (p:acd) (Z:List Nat) (l:Nat) (w:World) (h:aef w m M p Z) (hZ:∀ k,k∈Z->k<w.heap.size) (hf:M.Fit) (hl:l+1<M.order.length) :
  Calls Tryz.prog 64 #[.pointer (some ⟨m,0,none⟩),.int .i64 l] w fun e w'=>e=.returned (.int .i64 (M.U l:Nat))/\Upd [] w w':=by
 obtain ⟨ti,hi2,hz2,hs2,hb2⟩:=info_parts Tryz.infoTable;have HI:=Lib.hid (And.intro hi2 (And.intro hz2 (And.intro hs2 hb2)));obtain ⟨oa,oc,hov,_⟩:=abI h.os;obtain ⟨_,_,c2,_,_⟩:=h.cells;rw [hov] at c2;have hos:=h.os;rw [hov] at hos;have HOS:=Lib.hid hos;have HM:=Lib.hid h;have HF:=Lib.hid hf
 have HZ:Hid (∀ x:World,Upd [] w x->∀ k,k∈Z->k<x.heap.size):=fun x u k hk=>Nat.lt_of_lt_of_le (hZ k hk) u.size
 have HLV:=Lib.hid (aue m M p Z w h hZ hf);have hc1:=hf.lev_leS;have hc2:=hf.turn_leS l;have hk1:=hf.lev_len
 have hk2:(ag5 (acw M.tabs) (adL M.order l)).length<=8:=by rw [aqV,air];exact hf.ol
 have htl:=hf.tl;have hol:=hf.ol;have HD:Hid (M.U l=(acw (M.lev.flatten++(ag5 (acw M.tabs) (adL M.order l)).flatten)).length):=rfl;generalize M.lev=LV at *;obtain ⟨LV2,aPb⟩ : ∃ L,ag5 (acw M.tabs) (adL M.order l)=L:=⟨_,rfl⟩;have HE2:=Lib.hid aPb;rw [aPb] at hc2 HD hk2;clear h hZ hf hov hos hi2 hz2 hs2 hb2 aPb
 go_enter Tryz.func64,Tryz.ntmps64
 go_wp2_with fail;refine HLV.out.mono ?_;rintro e w1 hE;obtain ⟨lv,rfl,hL,hu1⟩:=hE.ex;obtain ⟨aa,ac,hav,hag⟩:=hL.form;subst hav;have HL:=Lib.hid (And.intro hL hu1);have HZ1:=Lib.hid (HZ.out w1 hu1);clear hL hu1 hE HLV;go_wp2_with fail
 go_loopg [5,13] LV.length (fun g s5 s13 wr=>∃ i:Nat,LV.length-i=g/\i<=LV.length/\s13=.int .i64 i/\TLs wr w1.heap.size Z s5 (LV.take i).flatten/\Upd [] w1 wr)
 case atStart=>exact ⟨0,by omega,by omega,rfl,by simpa using TLs.nil w1 w1.heap.size Z,Upd.refl _ _⟩
 case round =>
  obtain ⟨i,rfl,hi,rfl,hT,hU⟩:=hrel
  by_cases hlt:i<LV.length
  ·obtain ⟨c,hc⟩ : ∃ c,LV[i]?=some c:=⟨_,List.getElem?_eq_getElem hlt⟩
   obtain ⟨ga,rfl⟩:=hag (by omega);obtain ⟨cl,x0,htl⟩:=(HL.out.1.keep0 hU).at_ hc;obtain ⟨A,cc,ys,hcf,hA,abP,hyl,hyc,hy1⟩:=htl.src;subst hcf;obtain ⟨xs,hrx⟩:=hT.row;have hb3:=Nat.le_trans (ao1 LV (i+1)) hc1;have HS:=Lib.hid (aqZ hc);rw [HS.out,List.length_append] at hb3;have HP:=Lib.hid (And.intro hT (And.intro htl (And.intro hU hrx)));have HY:=Lib.hid (And.intro hA (And.intro abP (And.intro hyl (And.intro hyc hy1))));have hsz:=hU.size
   have hil:(i:Int)<(LV.length:Int):=by omega
   generalize (LV.take i).flatten=CU at *;generalize hcn:c.length=cn at *;have HCN:=Lib.hid hcn;clear hT hU hc htl hrx hA abP hyl hyc hy1 hcn
   go_wp2_with (at_builtin;go_must (refine agu rfl (.tmp 17) (.tmp 18) 22 rfl w1.heap.size 121 ti _ 2 32 Tryz.underlying22 HI.out.1 HI.out.2.1 HI.out.2.2.1 HI.out.2.2.2 (by rfl) (by decide) _ CU.length xs rfl HP.out.2.2.2 A cn cc ys rfl HY.out.1 HY.out.2.2.1 HY.out.2.2.2.1 HY.out.2.2.2.2 (by unfold maxLen;omega) (by omega) hsz ?_))
   intro v5 w5 ab3 hgr hat
   have HE:Hid (TLs w5 w1.heap.size Z v5 (CU++c)/\Upd [] w1 w5):=by
    have hp:=HP.out.1.cat HP.out.2.1 HZ1.out hgr HP.out.2.2.2 (by rw [HCN.out];exact HY.out.2.1) (by rw [HCN.out];exact ab3);refine ⟨hp.1,HP.out.2.2.1.then hp.2 fun k hk=>.inr ?_⟩;have hk':=Option.mem_toList.1 hk;exact (HP.out.2.2.2.lt k hk').1
   clear ab3 hgr hat;go_wp2_with fail
   go_roundg (LV.length-(i+1))
   case measure=>omega
   case rel=>exact ⟨i+1,rfl,by omega,by simp,by rw [HS.out];exact HE.out.1,HE.out.2⟩
  ·obtain rfl:i=LV.length:=by omega
   have hil:¬ ((LV.length:Int)<(LV.length:Int)):=by omega
   rw [List.take_length] at hT;have HT1:=Lib.hid (And.intro hT (And.intro hU (HL.out.2.trans hU)));have d2:=HT1.out.2.2.cell0 c2;have HTB:=Lib.hid (anG m M p Z wr.drew ((HM.out.keep0 HT1.out.2.2).keep0 (Upd.refl _ _).drew) (HZ.out _ HT1.out.2.2.drew) (by have:=HF.out.hl;omega));clear hT hU;go_wp2_with fail
   go_region_held3 (fun w'=>w'.cell? ⟨m,2,none⟩=some (.slice oa M.order.length oc)) (first | exact d2 | exact HT.out.2.cell0 d2 | exact (HT.out.2.trans HN.out.2).cell0 d2 | exact ((HT.out.2.trans HN.out.2).trans HS.out.2).cell0 d2) (first | (go_at_call 132;refine HTB.out.mono ?_;rintro e w3 hE;obtain ⟨cf,rfl,hT,hu⟩:=hE.ex;have HT:=Lib.hid (And.intro hT hu.of_drew);clear hE hT hu) | (go_at_call 123;refine (av9 0 _ M.order l _ (aaX HOS.out fun k hk=>(HT1.out.2.2.trans HT.out.2).block k (HOS.out.lt k hk).2 (by simp)) hl (by omega)).mono ?_;rintro e w4 hE;obtain ⟨tg,tc,rfl,hN,hu⟩:=hE.ex;have HN:=Lib.hid (And.intro hN hu);clear hE hN hu) | (go_at_call 131;refine (aqW _ _ Z _ _ M.tabs (adL M.order l) M.n _ (HT.out.1.keep0 HN.out.2) (HZ.out _ ((HT1.out.2.2.trans HT.out.2).trans HN.out.2)) (by omega) (fun t ht=>(HF.out.tn t ht).2) HF.out.n6 (by rw [air];exact HN.out.1) (by rw [air];exact hol) (fun x hx=>HF.out.on x (arv hl hx))).mono ?_;rintro e w5 hE;obtain ⟨cf2,rfl,hS,hu⟩:=hE.ex;rw [HE2.out] at hS;obtain ⟨ba,bc,hbv,hbg⟩:=hS.form;subst hbv;have HS:=Lib.hid (And.intro hS hu);clear hE hS hu))
   obtain ⟨xs1,aJh⟩:=HT1.out.1.row;have HK0:=Lib.hid (And.intro (fun k (hk:u5.ownBlock=some k)=>(aJh.lt k hk)) (And.intro (HT.out.2.trans HN.out.2).size (fun k (hk:u5.ownBlock=some k)=>acE (aaX aJh fun k hk=>((HT.out.2.trans HN.out.2).trans HS.out.2).block k (aJh.lt k hk).2 (by simp)) hk)));have HW:=Lib.hid (And.intro (HT1.out.1.keep0 ((HT.out.2.trans HN.out.2).trans HS.out.2)) (And.intro HS.out.1 (((HT1.out.2.2.trans HT.out.2).trans HN.out.2).trans HS.out.2)));have hsw:=HW.out.2.2.size;have hs1:=HL.out.2.size;have hs2:=Nat.le_trans HT1.out.2.1.size ((HT.out.2.trans HN.out.2).trans HS.out.2).size;obtain ⟨SV,rfl⟩ : ∃ SV:Value,SV=u5:=⟨_,rfl⟩;clear HT1 HT HN HS HTB d2;go_wp2_with fail
   go_loopg [5,31] LV2.length (fun g s5 s31 wr=>∃ i:Nat,LV2.length-i=g/\i<=LV2.length/\s31=.int .i64 i/\TLs wr w1.heap.size Z s5 (LV.flatten++(LV2.take i).flatten)/\Upd SV.ownBlock.toList w5 wr/\(∀ k,s5.ownBlock=some k->SV.ownBlock=some k\/w5.heap.size<=k))
   case atStart=>exact ⟨0,by omega,by omega,rfl,by simpa using HW.out.1,Upd.refl _ _,fun k hk=>.inl hk⟩
   case round =>
    obtain ⟨i,rfl,hi,rfl,hT,hU,hB⟩:=hrel
    by_cases hlt:i<LV2.length
    ·obtain ⟨c,hc⟩ : ∃ c,LV2[i]?=some c:=⟨_,List.getElem?_eq_getElem hlt⟩
     obtain ⟨ga,rfl⟩:=hbg (by omega);obtain ⟨cl,x0,htl⟩:=(HW.out.2.1.far hU (fun k hk=>by have:=HK0.out.1 k hk;have:=HK0.out.2.1;omega) HK0.out.2.2 (fun k hk ⟨z,hz⟩=>⟨z,hz,by have h1:=HZ.out w (Upd.refl _ _) z hz;have h2:=HK0.out.1 k hk;omega⟩)).at_ hc;obtain ⟨A,cc,ys,hcf,hA,abP,hyl,hyc,hy1⟩:=htl.src;subst hcf;obtain ⟨xs,hrx⟩:=hT.row;have hb3:=Nat.le_trans (ao1 LV2 (i+1)) hc2;have HS:=Lib.hid (aqZ hc);rw [HS.out,List.length_append] at hb3;have HP:=Lib.hid (And.intro hT (And.intro htl (And.intro hU (And.intro hrx hB))));have HY:=Lib.hid (And.intro hA (And.intro abP (And.intro hyl (And.intro hyc hy1))));have hsz:=hU.size
     have hil:(i:Int)<(LV2.length:Int):=by omega
     have hb4:(LV.flatten++(LV2.take i).flatten).length+c.length<=270336000:=by rw [List.length_append];omega
     have HAS:Hid (LV.flatten++(LV2.take (i+1)).flatten=LV.flatten++(LV2.take i).flatten++c):=by
      show _=_
      rw [HS.out,List.append_assoc]
     generalize LV.flatten++(LV2.take i).flatten=CU at *;generalize hcn:c.length=cn at *;have HCN:=Lib.hid hcn;clear hT hU hc htl hrx hA abP hyl hyc hy1 hcn hB hb3
     go_wp2_with (at_builtin;go_must (refine agu rfl (.tmp 35) (.tmp 36) 22 rfl w1.heap.size 121 ti _ 2 32 Tryz.underlying22 HI.out.1 HI.out.2.1 HI.out.2.2.1 HI.out.2.2.2 (by rfl) (by decide) _ CU.length xs rfl HP.out.2.2.2.1 A cn cc ys rfl HY.out.1 HY.out.2.2.1 HY.out.2.2.2.1 HY.out.2.2.2.2 (by unfold maxLen;omega) (by omega) (by omega) ?_))
     intro v6 w6 ab3 hgr hat
     have HE:Hid (TLs w6 w1.heap.size Z v6 (CU++c)/\Upd SV.ownBlock.toList w5 w6/\(∀ k,v6.ownBlock=some k->SV.ownBlock=some k\/w5.heap.size<=k)):=by
      have hp:=HP.out.1.cat HP.out.2.1 HZ1.out hgr HP.out.2.2.2.1 (by rw [HCN.out];exact HY.out.2.1) (by rw [HCN.out];exact ab3);refine ⟨hp.1,HP.out.2.2.1.then hp.2 fun k hk=>?_,fun k hk=>?_⟩
      ·rcases HP.out.2.2.2.2 k (Option.mem_toList.1 hk) with h | h
       ·exact .inl (Option.mem_toList.2 h)
       ·exact .inr h
      ·rcases hat with e | e
       ·exact HP.out.2.2.2.2 k (by rw [<- e];exact hk)
       ·rw [hk] at e
        injection e with e
        right;omega
     clear ab3 hgr hat;go_wp2_with fail
     go_roundg (LV2.length-(i+1))
     case measure=>omega
     case rel=>exact ⟨i+1,rfl,by omega,by simp,by rw [HAS.out];exact HE.out.1,HE.out.2⟩
    ·obtain rfl:i=LV2.length:=by omega
     have hil:¬ ((LV2.length:Int)<(LV2.length:Int)):=by omega
     rw [List.take_length] at hT
     have hU2:Upd [] w wr:=HW.out.2.2.then hU fun k hk=>.inr (by have:=HK0.out.1 k (Option.mem_toList.1 hk);omega)
     have HT1:=Lib.hid (And.intro hT hU2);have HUN:=Lib.hid (av5 w1.heap.size Z _ (LV.flatten++LV2.flatten) wr hT (HZ.out _ hU2) (by rw [List.length_append];omega));clear hT hU hB hU2;go_wp2_with fail;refine HUN.out.mono ?_;rintro e w7 hE;obtain ⟨uv,rfl,hN,hu7⟩:=hE.ex;obtain ⟨na,nc,hnv,_⟩:=hN.form;have HU7:=Lib.hid (HT1.out.2.trans hu7);have hlb:=ag8 (LV.flatten++LV2.flatten);rw [List.length_append] at hlb;rw [<- HD.out] at hnv hlb;subst hnv;clear hE hN hu7 HUN HT1;go_wp2_with fail;go_ret;exact ⟨rfl,HU7.out⟩
theorem Tryz.infoHold:(Tryz.prog.info? 255).map (fun i=>(i.zero,i.size,i.bytes))=some (some (.agg #[.int .i64 0,.slice none 0 0,.int .i64 0]),3,40):=by kernel_rfl
structure agq (m:Nat) (p:acd) (Z:List Nat) (M':MV) (w w':World):Prop where
 ex:∃ p',aef w' m M' p' (Z++p'.all m)/\Upd (p.all m) w w'/\Sub (p.all m) w (p'.all m)
theorem agq.same {m:Nat} {M:MV} {p:acd} {Z:List Nat} {w w':World} (h:aef w m M p Z) (u:Upd [] w w'):agq m p Z M w w' :=
 ⟨p,(h.keep0 u).apart (fun k hk=>.inl (by rcases List.mem_append.1 hk with hk | hk;exact hk;exact h.sz k hk)) (fun k hk=>List.mem_append.2 (.inr hk)),u.mono (by simp),Sub.refl _ _⟩
def MV.exchE (M:MV) (l:Int):Int:=if l<0\/(M.n:Int)-2<l then 1 else if M.c<2+M.U l.toNat then 9 else 0
def MV.exch (M:MV) (l:Int):MV:=if M.exchE l=0 then { M with order:=adL M.order l.toNat,trail:=M.trail++[l.toNat] } else M
theorem MV.U_le {M:MV} (h:M.Fit) (l:Nat):M.U l<=270336000:=by
 have h1:=ag8 (M.lev.flatten++(ag5 (acw M.tabs) (adL M.order l)).flatten);rw [List.length_append] at h1;have h2:=h.lev_leS;have h3:=h.turn_leS l
 unfold MV.U;omega
structure aNI (m:Nat) (M:MV) (p:acd) (Z:List Nat) (l:Int) (w:World) (e:Ending) (w':World):Prop where
 ex:e=.returned (.int .i64 (M.exchE l))/\agq m p Z (M.exch l) w w'
theorem ayD (m:Nat) (M:MV) (p:acd) (Z:List Nat) (l:Int) (w:World) (h:aef w m M p Z) (hZ:∀ k,k∈Z->k<w.heap.size) (hf:M.Fit) (ho:M.order.length=M.n) (ht:M.trail.length<=1000000) :
  Calls Tryz.prog 55 #[.pointer (some ⟨m,0,none⟩),.int .i64 l] w fun e w'=>aNI m M p Z l w e w':=by
 obtain ⟨ti,hi2,hz2,hs2,hb2⟩:=info_parts Tryz.infoIntM;have HI:=Lib.hid (And.intro hi2 (And.intro hz2 (And.intro hs2 hb2)));obtain ⟨oa,oc,hov,_⟩:=abI h.os;obtain ⟨ta,tc,htv,_⟩:=abI h.ts;obtain ⟨c0,c1,c2,c3,c4⟩:=h.cells;rw [hov] at c2;rw [htv] at c4;have hos:=h.os;rw [hov] at hos;have hts:=h.ts;rw [htv] at hts;have HOS:=Lib.hid hos;have HTS:=Lib.hid hts;have HM:=Lib.hid h;have HV:=Lib.hid (And.intro hov htv)
 have HZ:Hid (∀ x:World,Upd [] w x->∀ k,k∈Z->k<x.heap.size):=fun x u k hk=>Nat.lt_of_lt_of_le (hZ k hk) u.size
 have HF:=Lib.hid hf;have hn6:=hf.n6;have hcb:=hf.cb;have HO:=Lib.hid ho;clear h hZ hf hov htv hos hts hi2 hz2 hs2 hb2 c3
 by_cases hl0:l<0
 ·have hd0:decide (l<0)=true:=by simpa using hl0
  have HX:Hid (M.exchE l=1):=by show _=_;unfold MV.exchE;rw [if_pos (.inl hl0)]
  clear ho
  go_enter Tryz.func55,Tryz.ntmps55
  go_wp2_with fail;go_ret;refine ⟨by rw [HX.out];rfl,?_⟩;rw [MV.exch,HX.out,if_neg (by decide)];exact agq.same HM.out (Upd.refl _ _)
 have hd0:decide (l<0)=false:=by simpa using hl0
 have arN:IntKind.i64.wrap ((M.n:Int)-2)=(M.n:Int)-2:=IntWalk.i64_in _ (by omega)
 by_cases hl1:(M.n:Int)-2<l
 ·have hd1:decide ((M.n:Int)-2<l)=true:=by simpa using hl1
  have HX:Hid (M.exchE l=1):=by show _=_;unfold MV.exchE;rw [if_pos (.inr hl1)]
  clear ho
  go_enter Tryz.func55,Tryz.ntmps55
  go_wp2_with fail;go_ret;refine ⟨by rw [HX.out];rfl,?_⟩;rw [MV.exch,HX.out,if_neg (by decide)];exact agq.same HM.out (Upd.refl _ _)
 have hd1:decide ((M.n:Int)-2<l)=false:=by simpa using hl1
 obtain ⟨j,rfl⟩ : ∃ j:Nat,l=(j:Int):=⟨l.toNat,by omega⟩
 have hj:j+1<M.order.length:=by omega
 have hU:=MV.U_le HF.out j
 have HUC:Hid (∀ x:World,Upd [] w x->Calls Tryz.prog 64 #[.pointer (some ⟨m,0,none⟩),.int .i64 j] x fun e w'=>e=.returned (.int .i64 (M.U j:Nat))/\Upd [] x w'):=fun x u=>aPa m M p Z j x (HM.out.keep0 u) (HZ.out x u) HF.out hj
 have HEE:Hid (M.exchE j=if M.c<2+M.U j then 9 else 0):=by show _=_;unfold MV.exchE;rw [if_neg (by omega),Int.toNat_natCast]
 generalize M.U j=U at *;have hw2:IntKind.i64.wrap (2+(U:Int))=2+(U:Int):=IntWalk.i64_in _ (by omega)
 by_cases hc:M.c<2+U
 ·have hdc:decide ((M.c:Int)<2+(U:Int))=true:=by simp;omega
  have HX:Hid (M.exchE j=9):=by show _=_;rw [HEE.out,if_pos hc]
  clear hc ho
  go_enter Tryz.func55,Tryz.ntmps55
  go_wp2_with fail
  go_region_held3 (fun w'=>w'.cell? ⟨m,1,none⟩=some (.int .i64 M.c)) (first | exact c1 | exact HS.out.cell0 c1) (first | (go_at_call 64;refine (HUC.out _ (Upd.refl _ _).drew).mono ?_;rintro e w4 ⟨rfl,hu⟩;have HS:=Lib.hid hu.of_drew;clear hu))
  go_wp2_with fail;go_ret;refine ⟨by rw [HX.out];rfl,?_⟩;rw [MV.exch,HX.out,if_neg (by decide)];exact agq.same HM.out HS.out
 ·have hdc:decide ((M.c:Int)<2+(U:Int))=false:=by simp;omega
  have HX:Hid (M.exchE j=0):=by show _=_;rw [HEE.out,if_neg hc]
  clear hc ho
  go_enter Tryz.func55,Tryz.ntmps55
  go_wp2_with fail
  go_region_held3 (fun w'=>w'.cell? ⟨m,1,none⟩=some (.int .i64 M.c)) (first | exact c1 | exact HS.out.cell0 c1) (first | (go_at_call 64;refine (HUC.out _ (Upd.refl _ _).drew).mono ?_;rintro e w4 ⟨rfl,hu⟩;have HS:=Lib.hid hu.of_drew;clear hu))
  have d2:=HS.out.cell0 c2;have d4:=HS.out.cell0 c4;have HTC:=Lib.hid (av9 0 _ M.order j w4 (aaX HOS.out fun k hk=>HS.out.block k (HOS.out.lt k hk).2 (by simp)) hj (by have:=HF.out.ol;omega));clear hdc hw2 hd0 hd1 arN c0 c1 c2 c4;go_wp2_with fail;refine HTC.out.mono ?_;rintro e w5 hE;obtain ⟨tg,tcc,rfl,hN,hu⟩:=hE.ex;have HN:=Lib.hid (And.intro hN hu);have hbk:=(HS.out.trans hu).block m (aa4 HM.out.blk) (by simp);rw [HM.out.blk] at hbk;have fz2:w5.frozen? ⟨m,2,none⟩=false:=abq 2 hbk;have e2:=hu.cell0 d2;have e4:=hu.cell0 d4;have hb2:=abV (j:=2) hbk (.slice (some ⟨tg,0,none⟩) M.order.length tcc);have fz4:=abq 4 hb2;have k4:(w5.setCell ⟨m,2,none⟩ (.slice (some ⟨tg,0,none⟩) M.order.length tcc)).cell? ⟨m,4,none⟩=some (.slice ta M.trail.length tc):=aac hb2 (by rw [<- HV.out.2];rfl);have HB2:=Lib.hid (And.intro hb2 (HS.out.trans hu))
  have hmt:∀ k,(Value.slice ta M.trail.length tc).ownBlock=some k->k≠m:=fun k hk e=>by
   subst e;obtain ⟨c1,f1,e1⟩:=acE HTS.out hk;have e2:=HM.out.blk;rw [e1] at e2
   injection e2 with e2
   injection e2 with _ e2 _
   exact absurd e2 (by decide)
  have aRG:w5.ownsRow 0 3 1 (.slice ta M.trail.length tc) M.trail.length (acf M.trail):=aaX HTS.out fun k hk=>(HS.out.trans hu).block k (HTS.out.lt k hk).2 (by simp)
  have HTR:Hid ((w5.setCell ⟨m,2,none⟩ (.slice (some ⟨tg,0,none⟩) M.order.length tcc)).ownsRow 0 3 1 (.slice ta M.trail.length tc) M.trail.length (acf M.trail)):=ac9 aRG (fun e=>hmt m e.symm rfl) _
  have HC2:Hid (∀ u,u∈[Value.int .i64 j]->u.oneCell'=true):=by intro u hu;simp at hu;subst hu;rfl
  have HMT:=Lib.hid hmt;clear hE hN hu d2 d4 hbk hb2 HTC aRG hmt
  go_wp2_with (at_builtin;go_must (refine wpList_append_lies _ rfl (.tmp 40) (.tmp 42) 23 rfl 0 3 ti _ 1 8 Tryz.underlying23 HI.out.1 HI.out.2.1 HI.out.2.2.1 HI.out.2.2.2 (by rfl) (by decide) _ M.trail.length (acf M.trail) rfl (HTR.out.alloc _) ⟨w5.heap.size,0,none⟩ 1 1 [.int .i64 j] rfl rfl ?c1 HC2.out (by omega) (by unfold maxLen;omega) (by omega) (by omega) _ rfl ?_))
  case c1=>exact World.news_of_block (by
   have:=heap_alloc_new (w5.setCell ⟨m,2,none⟩ (.slice (some ⟨tg,0,none⟩) M.order.length tcc)) (.cells #[.int .i64 j] 3 (0,0))
   rw [World.size_setCell] at this;exact this)
  intro g6 cap w6 ab3 hgr hat aRH
  have hb6:w6.heap[m]?=some (.cells #[.int .i64 M.n,.int .i64 M.c,.slice (some ⟨tg,0,none⟩) M.order.length tcc,p.hv,p.tv] 53 (0,0)):=by
   have hne:some m≠(Value.slice ta M.trail.length tc).ownBlock:=fun e=>HMT.out m e.symm rfl
   rw [hgr.block m (by rw [World.size_alloc,World.size_setCell];have:=aa4 HM.out.blk;have:=HB2.out.2.size;omega) hne,Below.heap_alloc _ _ _ (aa4 HB2.out.1)];exact HB2.out.1
  have fz6:w6.frozen? ⟨m,4,none⟩=false:=abq 4 hb6;have e6:w6.cell? ⟨m,4,none⟩=some p.tv:=aac hb6 rfl;have hb7:=abV (j:=4) hb6 (.slice (some ⟨g6,0,none⟩) (M.trail.length+1) cap)
  have HE:Hid (agq m p Z { M with order:=adL M.order j,trail:=M.trail++[j] } w (w6.setCell ⟨m,4,none⟩ (.slice (some ⟨g6,0,none⟩) (M.trail.length+1) cap))):=by
   have hlm:=aa4 HM.out.blk;have hz5:=HB2.out.2.size;have hz4:=HS.out.size;have htg:=HN.out.1.lt tg rfl
   have hS0:∀ k,k∈m::(Value.slice ta M.trail.length tc).ownBlock.toList->k=m\/(Value.slice ta M.trail.length tc).ownBlock=some k:=fun k hk=>by
    rcases List.mem_cons.1 hk with h | h
    ·exact .inl h
    ·exact .inr (Option.mem_toList.1 h)
   have u6:Upd (m::(Value.slice ta M.trail.length tc).ownBlock.toList) w (w6.setCell ⟨m,4,none⟩ (.slice (some ⟨g6,0,none⟩) (M.trail.length+1) cap)):=by
    have a1:Upd (m::(Value.slice ta M.trail.length tc).ownBlock.toList) w w5:=HB2.out.2.mono (by simp);exact ((((a1.setCell (p:=⟨m,2,none⟩) (.inl (by simp)) _).alloc _).grown hgr fun k hk=>.inl (by rw [hk];simp))).setCell (p:=⟨m,4,none⟩) (.inl (by simp)) _
   have hpa:∀ k,(Value.slice ta M.trail.length tc).ownBlock=some k->k∈p.all m:=fun k hk=>acd.mem.2 (.inr (.inr (.inr (by rw [HV.out.2];exact hk))))
   have hg6:g6≠m/\tg≠g6/\((Value.slice ta M.trail.length tc).ownBlock=some g6\/w.heap.size<=g6):=by
    rcases hat with e | e
    ·have:=(HTS.out.lt g6 e).2
     exact ⟨HMT.out g6 e,by omega,.inl e⟩
    ·exact ⟨by omega,by omega,.inr (by omega)⟩
   have hsz:∀ k,k∈p.all m->k∈Z:=HM.out.sz
   have abP:(w6.setCell ⟨m,4,none⟩ (.slice (some ⟨g6,0,none⟩) (M.trail.length+1) cap)).ownsRow 0 3 1 (.slice (some ⟨tg,0,none⟩) M.order.length tcc) M.order.length (acf (adL M.order j)):=by
    have r5:=aet HN.out.1 (Nat.zero_le _);have r5':=ac9 r5 (a:=⟨m,2,none⟩) (by simp only [Value.ownBlock,ne_eq,Option.some.injEq];omega) (.slice (some ⟨tg,0,none⟩) M.order.length tcc);refine ac9 (aaX (r5'.alloc (.cells #[.int .i64 j] 3 (0,0))) fun k hk=>?_) (by simp only [Value.ownBlock,ne_eq,Option.some.injEq];omega) _
    simp only [Value.ownBlock,Option.some.injEq] at hk
    subst hk
    refine hgr.block tg (by rw [World.size_alloc,World.size_setCell];omega) fun e=>?_
    have:=(HTS.out.lt tg e.symm).2;omega
   refine ⟨⟨.slice (some ⟨tg,0,none⟩) M.order.length tcc,p.hv,.slice (some ⟨g6,0,none⟩) (M.trail.length+1) cap⟩,⟨hb7,by rw [air];exact abP,?_,?_,?_,fun k hk=>List.mem_append.2 (.inr hk)⟩,u6.mono fun k hk=>?_,fun k hk=>?_⟩
   ·refine (HM.out.hs.apart (Z':=Z++acd.all ⟨.slice (some ⟨tg,0,none⟩) M.order.length tcc,p.hv,.slice (some ⟨g6,0,none⟩) (M.trail.length+1) cap⟩ m) fun k hk=>?_).keep u6 (fun k hk=>?_) fun k hk hm=>?_
    ·rcases List.mem_append.1 hk with hk | hk
     ·exact .inl hk
     ·rcases acd.mem.1 hk with rfl | h | h | h
      ·exact .inl (hsz _ (acd.mem.2 (.inl rfl)))
      ·simp [Value.ownBlock] at h;subst h;right;omega
      ·exact .inl (hsz _ (acd.mem.2 (.inr (.inr (.inl h)))))
      ·simp [Value.ownBlock] at h;subst h
       rcases hg6.2.2 with h | h
       ·exact .inl (hsz _ (hpa _ h))
       ·exact .inr h
    ·left
     rcases hS0 k hk with rfl | h
     ·exact List.mem_append.2 (.inl (hsz _ (acd.mem.2 (.inl rfl))))
     ·exact List.mem_append.2 (.inl (hsz _ (hpa k h)))
    ·obtain ⟨xs,hr⟩:=HM.out.hs.row
     obtain ⟨c1,f1,e1⟩:=acE hr hk
     rcases hS0 k hm with rfl | h
     ·rw [HM.out.blk] at e1
      injection e1 with e1
      injection e1 with _ e1 _
      exact absurd e1 (by decide)
     ·obtain ⟨c2,f2,e2⟩:=acE HTS.out h
      rw [e1] at e2
      injection e2 with e2
      injection e2 with _ e2 _
      exact absurd e2 (by decide)
   ·have e:acf (M.trail++[j])=acf M.trail++[.int .i64 j]:=by simp [acf]
    show (w6.setCell _ _).ownsRow 0 _ 1 _ (M.trail++[j]).length _
    rw [List.length_append,List.length_singleton]
    show (w6.setCell _ _).ownsRow 0 _ 1 _ (M.trail.length+1) (acf (M.trail++[j]))
    rw [e];exact ac9 ab3 (by simp only [Value.ownBlock,ne_eq,Option.some.injEq];exact fun e=>hg6.1 e.symm) _
   ·intro k hk
    simp only [Value.ownBlock,Option.some.injEq] at hk ⊢
    subst hk
    exact fun e=>hg6.2.1 (Option.some.inj e).symm
   ·rcases hS0 k hk with rfl | h
    ·exact acd.mem.2 (.inl rfl)
    ·exact hpa k h
   ·rcases acd.mem.1 hk with rfl | h | h | h
    ·exact .inl (acd.mem.2 (.inl rfl))
    ·simp [Value.ownBlock] at h;subst h;right;omega
    ·exact .inl (acd.mem.2 (.inr (.inr (.inl h))))
    ·simp [Value.ownBlock] at h;subst h
     rcases hg6.2.2 with h | h
     ·exact .inl (hpa _ h)
     ·exact .inr h
  clear ab3 hgr hat aRH hb6 hb7;go_wp2_with fail;go_ret;refine ⟨by rw [HX.out];rfl,?_⟩;rw [MV.exch,HX.out,if_pos rfl,Int.toNat_natCast];exact HE.out
end Go.Proofs.YtdackeldhdchaaaGreat
