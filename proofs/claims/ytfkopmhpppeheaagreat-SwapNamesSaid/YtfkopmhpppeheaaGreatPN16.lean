import Derived.Test.YtfkopmhpppeheaaGreatPN15
set_option maxRecDepth 100000
set_option maxHeartbeats 1600000
namespace Go.Proofs.YtfkopmhpppeheaaGreat
open Go.RowKit Go.Maps Go.ChangeMaps Go.WideShapes
theorem Tryz.Uw:(Tryz.prog.info? 22).map (fun i=>(i.zero,i.size,i.bytes))=some (some (.slice none 0 0),1,24):=by kernel_rfl
def qK (c:List TV) (o:List Nat):List TV:=o.foldl bU c
def iJ:List TV->List Nat->List (List TV)
 | _,[]=>[]
 | c,v::o=>eX c v::iJ (bU c v) o
theorem Qv (c:List TV) (o:List Nat) (v:Nat):qK c (o++[v])=bU (qK c o) v:=by unfold qK;rw [List.foldl_append];rfl
theorem Qw (c:List TV) (o:List Nat) (v:Nat):iJ c (o++[v])=iJ c o++[eX (qK c o) v]:=by
 induction o generalizing c with
 | nil=>rfl
 | cons a o ih=>simp only [List.cons_append,iJ,ih];rfl
theorem xy (c:List TV) (o:List Nat):(iJ c o).length=o.length:=by
 induction o generalizing c with
 | nil=>rfl
 | cons a o ih=>simp [iJ,ih]
theorem Ux (c:List TV) (o:List Nat):(qK c o).length<=2 ^ o.length*c.length:=by
 induction o generalizing c with
 | nil=>simp [qK]
 | cons a o ih =>
  have h1:=ih (bU c a);have h2:=vN c a;have h3:qK c (a::o)=qK (bU c a) o:=rfl;rw [h3,List.length_cons,Nat.pow_succ]
  calc _<=2 ^ o.length*(bU c a).length:=h1
   _<=2 ^ o.length*(2*c.length):=Nat.mul_le_mul_left _ h2
   _=_:=by rw [Nat.mul_assoc]
theorem BP {l:List TV} {t u:TV}:u∈dX l t↔u∈l\/u=t:=by
 unfold dX;split
 ·constructor
  ·exact .inl
  ·rintro (h | rfl);exact h;assumption
 ·simp
theorem gp {L:List TV} {u:TV}:u∈bz L↔u∈L:=by
 have key:∀ (L l:List TV),u∈L.foldl dX l↔u∈l\/u∈L:=by
  intro L
  induction L with
  | nil=>intro l;simp
  | cons a L ih=>intro l;rw [List.foldl_cons,ih,BP,List.mem_cons,or_assoc]
 simpa [bz] using key L []
theorem kU {L:List TV} {v:Nat} {u:TV}:u∈bU L v↔∃ t,t∈L/\∃ b,u=cO t v b:=by
 have key:∀ (L l:List TV),u∈L.foldl (fun l t=>dX (dX l (cO t v false)) (cO t v true)) l↔u∈l\/∃ t,t∈L/\∃ b,u=cO t v b:=by
  intro L
  induction L with
  | nil=>intro l;simp
  | cons a L ih =>
   intro l
   rw [List.foldl_cons,ih,BP,BP];constructor
   ·rintro (((h | h) | h) | ⟨t,h,b,e⟩)
    ·exact .inl h
    ·exact .inr ⟨a,by simp,_,h⟩
    ·exact .inr ⟨a,by simp,_,h⟩
    ·exact .inr ⟨t,by simp [h],b,e⟩
   ·rintro (h | ⟨t,h,b,e⟩)
    ·exact .inl (.inl (.inl h))
    ·rcases List.mem_cons.1 h with rfl | h
     ·cases b
      ·exact .inl (.inl (.inr e))
      ·exact .inl (.inr e)
     ·exact .inr ⟨t,h,b,e⟩
 simpa [bU] using key L []
theorem ab1 {c:List TV} {n:Nat} (h:∀ t,t∈c->t.n=n) (o:List Nat):∀ t,t∈qK c o->t.n=n:=by
 induction o generalizing c with
 | nil=>exact h
 | cons a o ih =>
  refine ih fun t ht=>?_
  obtain ⟨u,hu,b,rfl⟩:=kU.1 ht;exact h u hu
structure yw (w:World) (n0:Nat) (Z:List Nat) (v:Value) (L:List (List TV)):Prop where
 ex:∃ cs:List Value,cs.length=L.length/\w.ownsRow n0 22 1 v L.length cs/\∀ (i:Nat) (l:List TV) (c:Value),L[i]?=some l->cs[i]?=some c->iI w n0 Z c l
 fr:∀ k,v.ownBlock=some k->k∉Z
theorem yw.row {w:World} {n0:Nat} {Z:List Nat} {v:Value} {L:List (List TV)} (h:yw w n0 Z v L):∃ xs,w.ownsRow n0 22 1 v L.length xs:=by
 obtain ⟨cs,_,hr,_⟩:=h.ex;exact ⟨_,hr⟩
theorem yw.keep {w w':World} {n0:Nat} {Z S:List Nat} {v:Value} {L:List (List TV)} (h:yw w n0 Z v L) (u:af S w w') (hS:∀ k,k∈S->k∈Z\/w.heap.size<=k):yw w' n0 Z v L:=by
 obtain ⟨cs,h1,h2,h3⟩:=h.ex;refine ⟨⟨cs,h1,ai h2 fun k hk=>u.block k (h2.lt k hk).2 fun hm=>?_,fun i t c ht hc=>(h3 i t c ht hc).keep u hS⟩,h.fr⟩
 rcases hS k hm with h4 | h4
 ·exact h.fr k hk h4
 ·have:=(h2.lt k hk).2;omega
theorem yw.keep0 {w w':World} {n0:Nat} {Z:List Nat} {v:Value} {L:List (List TV)} (h:yw w n0 Z v L) (u:af [] w w'):yw w' n0 Z v L:=h.keep u (by simp)
theorem yw.base {w:World} {n0 n1:Nat} {Z:List Nat} {v:Value} {L:List (List TV)} (h:yw w n0 Z v L) (hn:n1<=n0):yw w n1 Z v L:=by
 obtain ⟨cs,h1,h2,h3⟩:=h.ex;exact ⟨⟨cs,h1,df h2 hn,fun i t c ht hc=>(h3 i t c ht hc).base hn⟩,h.fr⟩
theorem yw.nil (w:World) (n0:Nat) (Z:List Nat):yw w n0 Z (.slice none 0 0) []:=⟨⟨[],rfl,World.ownsRow_nil _ _ _ _,fun i t c h=>by simp at h⟩,fun k hk=>by simp [Value.ownBlock] at hk⟩
theorem yw.form {w:World} {n0:Nat} {Z:List Nat} {v:Value} {L:List (List TV)} (h:yw w n0 Z v L):∃ (a:Option Addr) (c:Nat),v=.slice a L.length c/\(0<L.length->∃ g,a=some ⟨g,0,none⟩):=by
 obtain ⟨xs,hr⟩:=h.row;obtain ⟨a,c,hv,hh⟩:=aj hr;refine ⟨a,c,hv,fun hp=>?_⟩
 rcases hh with ⟨_,h0,_⟩ | hh
 ·omega
 ·exact hh
theorem yw.at_ {w:World} {n0 n' cp g:Nat} {Z:List Nat} {L:List (List TV)} (h:yw w n0 Z (.slice (some ⟨g,0,none⟩) n' cp) L) {i:Nat} {l:List TV} (ht:L[i]?=some l) :
  ∃ c,w.cell? ⟨g,i,none⟩=some c/\iI w n0 Z c l:=by
 obtain ⟨cs,h1,h2,h3⟩:=h.ex
 have fF:i<L.length:=by
  by_cases e:i<L.length
  ·exact e
  ·rw [List.getElem?_eq_none (by omega)] at ht;cases ht
 have hc:cs[i]?=some (cs[i]'(by omega)):=List.getElem?_eq_getElem (by omega);exact ⟨_,au h2 hc,h3 i l _ ht hc⟩
theorem bT {w:World} {base:Nat} {e:TypeId} {sz n:Nat} {v:Value} {xs:List Value} (h:w.ownsRow base e sz v n xs) {k:Nat} (hk:v.ownBlock=some k) :
  ∃ cs fr,w.heap[k]?=some (.cells cs e fr):=by
 obtain ⟨_,(⟨e1,_⟩ | ⟨g,oD,Yb,e1,hg,hh,_⟩)⟩:=h
 ·rw [e1] at hk;simp [Value.ownBlock] at hk
 ·rw [e1] at hk
  simp [Value.ownBlock] at hk
  subst hk;exact ⟨_,_,hh⟩
theorem iI.other {w w':World} {n0:Nat} {Z:List Nat} {v:Value} {L:List TV} (h:iI w n0 Z v L) {k0:Option Nat} (u:af k0.toList w w') (h0:∀ k,k0=some k->∃ cs fr,w.heap[k]?=some (.cells cs 22 fr)):iI w' n0 Z v L:=by
 obtain ⟨cs,h1,h2,h3⟩:=h.ex
 have far:∀ {e:TypeId} {k:Nat},e≠22->(∃ cs fr,w.heap[k]?=some (.cells cs e fr))->k∉k0.toList:=fun {e k} hne hh hm=>by
  have hk:k0=some k:=by simpa using hm
  obtain ⟨c1,f1,e1⟩:=hh;obtain ⟨c2,f2,e2⟩:=h0 k hk;rw [e1] at e2
  injection e2 with e2
  injection e2 with _ e2 _
  exact hne e2
 refine ⟨⟨cs,h1,ai h2 fun k hk=>u.block k (h2.lt k hk).2 (far (by decide) (bT h2 hk)),fun i t c ht hc=>?_⟩,h.fr⟩;have Qx:=h3 i t c ht hc;exact ⟨Qx.ok,ai Qx.row fun k hk=>u.block k (Qx.row.lt k hk).2 (far (by decide) (bT Qx.row hk)),Qx.fr⟩
theorem yw.push {w w5:World} {n0 g5 cap:Nat} {Z:List Nat} {v c:Value} {L:List (List TV)} {l:List TV} {X:Obj} (h:yw w n0 Z v L) (ht:iI w n0 Z c l) (hZ:∀ k,k∈Z->k<n0)
  (dh:(w.alloc X).grownBy w5 v.ownBlock) {xs:List Value} (aC:w.ownsRow n0 22 1 v L.length xs) (aK:w5.ownsRow n0 22 1 (.slice (some ⟨g5,0,none⟩) (L.length+1) cap) (L.length+1) (xs++[c])) :
  yw w5 n0 Z (.slice (some ⟨g5,0,none⟩) (L.length+1) cap) (L++[l])/\af v.ownBlock.toList w w5:=by
 obtain ⟨cs,h1,h2,h3⟩:=h.ex
 obtain rfl:xs=cs:=by
  obtain ⟨e1,c1⟩:=aC;obtain ⟨e2,c2⟩:=h2
  rcases c1 with ⟨rfl,h0⟩ | ⟨g,oD,Yb,rfl,hg,hh,_,_,_,k1⟩
  ·rcases c2 with ⟨_,_⟩ | ⟨g,jc,Qs,e,_⟩
   ·have a1:xs.length=0:=by rw [e1,h0]
    have a2:cs.length=0:=by rw [e2,h0]
    rw [List.length_eq_zero_iff.1 a1,List.length_eq_zero_iff.1 a2]
   ·simp at e
  ·rcases c2 with ⟨e,_⟩ | ⟨g',jc,Qs,e,hg',Xq,_,_,_,k2⟩
   ·simp at e
   ·simp at e
    obtain ⟨rfl,_⟩:=e
    rw [hh] at Xq;cases Xq
    rw [<- k1,<- k2]
 have hu:af v.ownBlock.toList w w5:=((af.refl _ w).alloc X).grown dh fun k hk=>.inl (by rw [hk];simp)
 have keep:∀ {m:List TV} {d:Value},iI w n0 Z d m->iI w5 n0 Z d m:=fun {m d} hd=>hd.other hu fun k hk=>bT aC hk
 refine ⟨⟨⟨xs++[c],by simp [h1],by rw [List.length_append,List.length_singleton];exact aK,fun i u d jy hd=>?_⟩,fun k hk hm=>?_⟩,hu⟩
 ·by_cases hi:i<L.length
  ·rw [List.getElem?_append_left hi] at jy
   rw [List.getElem?_append_left (by omega)] at hd;exact keep (h3 i u d jy hd)
  ·rw [List.getElem?_append_right (by omega)] at jy
   rw [List.getElem?_append_right (by omega),h1] at hd
   cases e:i-L.length with
   | zero=>rw [e] at jy hd;simp at jy hd;subst jy hd;exact keep ht
   | succ j=>rw [e] at jy;simp at jy
 ·have h4:=(aK.lt k hk).1
  have h5:=hZ k hm;omega
structure ae7 (Z:List Nat) (L:List (List TV)) (w:World) (e:Ending) (w':World):Prop where
 ex:∃ v:Value,e=.returned v/\yw w' w.heap.size Z v L/\af [] w w'
theorem tq (n0 n1:Nat) (Z:List Nat) (v vo:Value) (L:List TV) (o:List Nat) (n:Nat) (w:World) (h:iI w n0 Z v L) (hZ:∀ k,k∈Z->k<w.heap.size) (hl:L.length<=4194304)
  (hn:∀ t,t∈L->t.n=n) (hn6:n<=8) (ho:w.ownsRow n1 3 1 vo o.length (aQ o)) (yC:o.length<=8) (X5:∀ x,x∈o->x<n) :
  Calls Tryz.prog 148 #[v,vo] w fun e w'=>ae7 Z (iJ (bz L) o) w e w':=by
 obtain ⟨ti,eU,fE,dR,fU⟩:=info_parts Tryz.Uw;have HI:=Lib.hid (And.intro eU (And.intro fE (And.intro dR fU)));have HZ:=Lib.hid hZ;have OV:=Lib.hid (zD n0 Z v L w h hZ (by omega))
 have HN:Hid (∀ t,t∈bz L->t.n=n):=fun t ht=>hn t (gp.1 ht)
 have HON:=Lib.hid X5;have MJ:(bz L).length<=4194304:=Nat.le_trans (iw L) hl;obtain ⟨oa,oc,rfl,hof⟩:=aj ho;have HO:=Lib.hid ho;generalize bz L=C at *;clear h hZ eU fE dR fU hn ho X5 hl
 go_enter Tryz.func148,Tryz.ntmps148
 go_wp2_with fail;refine OV.out.mono ?_;rintro e w1 hE;obtain ⟨cv,rfl,hC,iq⟩:=hE.ex;have HC:=Lib.hid (And.intro hC iq);clear hC iq hE OV;go_wp2_with fail
 go_loopg [5,6,13] o.length (fun g s5 s6 s13 wr=>∃ i:Nat,o.length-i=g/\i<=o.length/\s13=.int .i64 i/\yw wr w.heap.size Z s5 (iJ C (o.take i))/\iI wr w.heap.size Z s6 (qK C (o.take i))/\af [] w wr)
 case atStart=>exact ⟨0,by omega,by omega,rfl,by simpa [iJ] using yw.nil w1 w.heap.size Z,by simpa [qK] using HC.out.1,HC.out.2⟩
 case round =>
  obtain ⟨i,rfl,hi,rfl,hT,hc,hU⟩:=hrel
  by_cases aW:i<o.length
  ·obtain ⟨x,hx⟩ : ∃ x,o[i]?=some x:=⟨_,List.getElem?_eq_getElem aW⟩
   obtain ⟨ga,rfl⟩:=bC HO.out (by omega);have Uy:=HON.out x (List.mem_of_getElem? hx);have x0:wr.cell? ⟨ga,i,none⟩=some (.int .i64 x):=au (ai HO.out fun k hk=>hU.block k (HO.out.lt k hk).2 (by simp)) (by simp [aQ,hx]);obtain ⟨aa,ac,hav,_⟩:=hT.form;subst hav;obtain ⟨ca,cc,hcv,_⟩:=hc.form;subst hcv
   have fF:(i:Int)<(o.length:Int):=by omega
   have Ye:=ab1 HN.out (o.take i)
   have uF:(qK C (o.take i)).length<=536870912:=by
    have h1:=Ux C (o.take i)
    have h2:(2:Nat) ^ (o.take i).length<=128:=by
     have:(o.take i).length<=7:=by rw [List.length_take];omega
     calc 2 ^ (o.take i).length<=2 ^ 7:=Nat.pow_le_pow_right (by omega) this
      _=128:=rfl
    calc _<=_:=h1
     _<=128*4194304:=Nat.mul_le_mul h2 MJ
     _=_:=rfl
   have HS:Hid (iJ C (o.take (i+1))=iJ C (o.take i)++[eX (qK C (o.take i)) x]/\qK C (o.take (i+1))=bU (qK C (o.take i)) x):=by
    show _/\_
    rw [List.take_add_one,hx];exact ⟨Qw _ _ _,Qv _ _ _⟩
   have Bv:(iJ C (o.take i)).length<=8:=by rw [xy,List.length_take];omega
   generalize iJ C (o.take i)=LV at *;generalize qK C (o.take i)=CU at *
   have HZr:Hid (∀ k,k∈Z->k<wr.heap.size):=fun k hk=>Nat.lt_of_lt_of_le (HZ.out k hk) hU.size
   have HT:=Lib.hid (And.intro hT (And.intro hc hU));have Yf:=Lib.hid (ML w.heap.size Z (.slice ca CU.length cc) CU x wr hc HZr.out (by omega) (fun t ht=>by rw [Ye t ht];exact Uy) (by omega));have BQ:=Lib.hid Ye;clear hT hc hU hx Ye;go_wp2_with fail;refine Yf.out.mono ?_;rintro e w3 hE;obtain ⟨nv,rfl,hN,fG⟩:=hE.ex;obtain ⟨na,nc,hnv,_⟩:=hN.form;generalize hNL:(eX CU x).length=NL at hnv;subst hnv;clear hNL;have rW:=Lib.hid (And.intro (HT.out.1.keep0 fG) (And.intro (HT.out.2.1.keep0 fG) (And.intro (hN.base HT.out.2.2.size) (HT.out.2.2.trans fG))))
   have HZ3:Hid (∀ k,k∈Z->k<w3.heap.size):=fun k hk=>Nat.lt_of_lt_of_le (HZr.out k hk) fG.size
   obtain ⟨xs,aC⟩:=rW.out.1.row;have bF:=Lib.hid aC
   have mg:Hid (∀ z,z∈[Value.slice na NL nc]->z.oneCell'=true):=by
    intro z hz
    simp at hz
    subst hz;rfl
   have yK:=rW.out.2.2.2.size
   have pW:w.heap.size<=(w3.alloc (.cells #[.slice na NL nc] 22 (0,0))).heap.size:=by rw [World.size_alloc];omega
   clear hN fG hE Yf HT aC x0
   go_wp2_with (at_builtin;go_must (refine wpList_append_lies _ rfl (.tmp 17) (.tmp 21) 218 rfl w.heap.size 22 ti _ 1 24 Tryz.underlying218 HI.out.1 HI.out.2.1 HI.out.2.2.1 HI.out.2.2.2 (by rfl) (by decide) _ LV.length xs rfl (bF.out.alloc _) ⟨w3.heap.size,0,none⟩ 1 1 [.slice na NL nc] rfl rfl ?c1 mg.out (by omega) (by unfold maxLen;omega) (by omega) pW _ rfl ?_))
   case c1=>exact World.news_of_block (heap_alloc_new w3 (.cells #[.slice na NL nc] 22 (0,0)))
   intro g5 cap w5 aK dh bI kF
   have HE:Hid (yw w5 w.heap.size Z (.slice (some ⟨g5,0,none⟩) (LV.length+1) cap) (LV++[eX CU x])/\iI w5 w.heap.size Z (.slice ca CU.length cc) CU/\af [] w w5):=by
    have hp:=rW.out.1.push rW.out.2.2.1 HZ.out dh bF.out aK;refine ⟨hp.1,rW.out.2.1.other hp.2 fun k hk=>bT bF.out hk,rW.out.2.2.2.then hp.2 fun k hk=>.inr ?_⟩
    have dB:(Value.slice aa LV.length ac).ownBlock=some k:=by simpa using hk
    exact (bF.out.lt k dB).1
   have Yg:=Lib.hid (MN w.heap.size Z (.slice ca CU.length cc) CU x w5 HE.out.2.1 (fun k hk=>Nat.lt_of_lt_of_le (HZ.out k hk) HE.out.2.2.size) (by omega) (fun t ht=>by rw [BQ.out t ht];exact Uy) (by omega));clear aK dh bI kF rW bF;go_wp2_with fail;refine Yg.out.mono ?_;rintro e w6 hE;obtain ⟨gv,rfl,hG,uI⟩:=hE.ex;have HF:=Lib.hid (And.intro (HE.out.1.keep0 uI) (And.intro (hG.base HE.out.2.2.size) (HE.out.2.2.trans uI)));clear hG uI hE Yg HE;go_wp2_with fail
   go_roundg (o.length-(i+1))
   case measure=>omega
   case rel=>exact ⟨i+1,rfl,by omega,by simp,by rw [HS.out.1];exact HF.out.1,by rw [HS.out.2];exact HF.out.2.1,HF.out.2.2⟩
  ·obtain rfl:i=o.length:=by omega
   have fF:¬ ((o.length:Int)<(o.length:Int)):=by omega
   have HE:Hid (yw wr w.heap.size Z _ (iJ C o)/\af [] w wr):=⟨by rw [List.take_length] at hT;exact hT,hU⟩;clear hT hU hc;go_wp2_with fail;go_ret;exact ⟨_,rfl,HE.out⟩
end Go.Proofs.YtfkopmhpppeheaaGreat
namespace Go.Proofs.YtfkopmhpppeheaaGreat
def jH (o:List Nat) (a y:Nat->Bool):Nat->Bool:=fun v=>if v∈o then a v else y v
theorem Jt (a y:Nat->Bool):jH [] a y=y:=by funext v;simp [jH]
theorem Qy (v:Nat) (o:List Nat) (a y:Nat->Bool):jH (v::o) a y=upd (jH o a y) v (a v):=by
 funext u
 simp only [jH,upd,List.mem_cons]
 by_cases e:u=v
 ·subst e;simp
 ·simp [e]
theorem Uz (v:Nat) (o:List Nat) (a y:Nat->Bool) (b:Bool):upd (jH o a y) v b=jH (v::o) (upd a v b) y:=by
 funext u
 simp only [jH,upd,List.mem_cons]
 by_cases e:u=v
 ·subst e;simp
 ·simp [e]
theorem xA {n:Nat}:∀ (o:List Nat) (c:List TV),(∀ t,t∈c->t.Ok/\t.n=n)->(∀ v,v∈o->v<n)->∀ {u:TV},u∈qK c o↔(u.Ok/\u.n=n/\∃ t,t∈c/\∃ a,∀ y,u.fn y=t.fn (jH o a y))
 | [],c,hc,_,u=>by
  constructor
  ·intro h
   exact ⟨(hc u h).1,(hc u h).2,u,h,fun _=>false,fun y=>by rw [Jt]⟩
  ·rintro ⟨h1,h2,t,ht,a,he⟩
   have:u=t:=TV.yE h1 (hc t ht).1 (h2.trans (hc t ht).2.symm) fun y=>by rw [he,Jt]
   subst this;exact ht
 | v::o,c,hc,ho,u=>by
  have wZ:=ho v (by simp)
  have hg:∀ t,t∈bU c v->t.Ok/\t.n=n:=fun t ht=>by
   obtain ⟨s,hs,b,rfl⟩:=kU.1 ht;exact ⟨qJ (hc s hs).1 v b,(hc s hs).2⟩
  have ih:=xA o (bU c v) hg (fun x hx=>ho x (by simp [hx])) (u:=u)
  show u∈qK (bU c v) o↔_
  rw [ih];constructor
  ·rintro ⟨h1,h2,t,ht,a,he⟩
   obtain ⟨s,hs,b,rfl⟩:=kU.1 ht;refine ⟨h1,h2,s,hs,upd a v b,fun y=>?_⟩;rw [he,iG (by rw [(hc s hs).2];exact wZ),Uz]
  ·rintro ⟨h1,h2,s,hs,a,he⟩
   refine ⟨h1,h2,cO s v (a v),kU.2 ⟨s,hs,a v,rfl⟩,a,fun y=>?_⟩;rw [he,iG (by rw [(hc s hs).2];exact wZ),Qy]
theorem BR {L:List TV} {v:Nat} {u:TV}:u∈eX L v↔u∈L/\oW u v=true:=by simp [eX]
def iy (L:List TV) (o:List Nat):List TV:=(iJ (bz L) o).flatten
theorem BU {u:TV}:∀ (o:List Nat) (c:List TV),u∈(iJ c o).flatten↔∃ i v,o[i]?=some v/\u∈qK c (o.take i)/\oW u v=true
 | [],c=>by simp [iJ]
 | x::o,c=>by
  have ih:=BU (u:=u) o (bU c x)
  show u∈(eX c x::iJ (bU c x) o).flatten↔_
  rw [List.flatten_cons,List.mem_append,BR,ih];constructor
  ·rintro (⟨h1,h2⟩ | ⟨i,v,h1,h2,h3⟩)
   ·exact ⟨0,x,rfl,h1,h2⟩
   ·exact ⟨i+1,v,h1,h2,h3⟩
  ·rintro ⟨i,v,h1,h2,h3⟩
   cases i with
   | zero=>simp at h1;subst h1;exact .inl ⟨h2,h3⟩
   | succ i=>exact .inr ⟨i,v,h1,h2,h3⟩
theorem vP {l:List TV} (h:l.Nodup) (t:TV):(dX l t).Nodup:=by
 unfold dX;split
 ·exact h
 ·rename_i hn
  rw [List.nodup_append];exact ⟨h,by simp,fun a ha b hb e=>by simp at hb;subst hb;subst e;exact hn ha⟩
theorem Ho (L:List TV) (v:Nat):(bU L v).Nodup:=by
 have key:∀ (L l:List TV),l.Nodup->(L.foldl (fun l t=>dX (dX l (cO t v false)) (cO t v true)) l).Nodup:=by
  intro L
  induction L with
  | nil=>intro l h;exact h
  | cons a L ih=>intro l h;exact ih _ (vP (vP h _) _)
 exact key L [] (by simp)
theorem lH (L:List TV):(bz L).Nodup:=by
 have key:∀ (L l:List TV),l.Nodup->(L.foldl dX l).Nodup:=by
  intro L
  induction L with
  | nil=>intro l h;exact h
  | cons a L ih=>intro l h;exact ih _ (vP h _)
 exact key L [] (by simp)
theorem BV {n:Nat}:∀ (o:List Nat) (c:List TV),c.Nodup->(∀ t,t∈c->t.Ok/\t.n=n)->(∀ v,v∈o->v<n)->(iJ c o).flatten.Nodup
 | [],c,_,_,_=>by simp [iJ]
 | x::o,c,hd,hc,ho=>by
  have hg:∀ t,t∈bU c x->t.Ok/\t.n=n:=fun t ht=>by
   obtain ⟨s,hs,b,rfl⟩:=kU.1 ht;exact ⟨qJ (hc s hs).1 x b,(hc s hs).2⟩
  show (eX c x::iJ (bU c x) o).flatten.Nodup
  rw [List.flatten_cons,List.nodup_append];refine ⟨List.Pairwise.filter _ hd,BV o _ (Ho c x) hg (fun v hv=>ho v (by simp [hv])),fun a ha b hb e=>?_⟩;subst e;obtain ⟨h1,h2⟩:=BR.1 ha;obtain ⟨i,v,_,h4,_⟩:=(BU o (bU c x)).1 hb;have Uy:=ho x (by simp);obtain ⟨_,_,t,ht,av,he⟩:=(xA (n:=n) (o.take i) (bU c x) hg (fun v hv=>ho v (by simp [List.mem_of_mem_take hv]))).1 h4;obtain ⟨s,hs,b,rfl⟩:=kU.1 ht;obtain ⟨y,hy⟩:=(nG (hc a h1).1 (by rw [(hc a h1).2];exact Uy)).1 h2;refine hy ?_;rw [he,he,iG (by rw [(hc s hs).2];exact Uy),iG (by rw [(hc s hs).2];exact Uy)]
  congr 1
  funext u
  simp only [upd,jH]
  by_cases e:u=x
  ·simp [e]
  ·simp [e]
theorem Ju {n:Nat} {L:List TV} {o:List Nat} (hc:∀ t,t∈L->t.Ok/\t.n=n) (ho:∀ v,v∈o->v<n):(iy L o).Nodup :=
 BV o _ (lH L) (fun t ht=>hc t (gp.1 ht)) ho
theorem jh {n:Nat} {L:List TV} {o:List Nat} (hc:∀ t,t∈L->t.Ok/\t.n=n) (ho:∀ v,v∈o->v<n) {u:TV} :
  u∈iy L o↔∃ i v,o[i]?=some v/\u.Ok/\u.n=n/\(∃ t,t∈L/\∃ a,∀ y,u.fn y=t.fn (jH (o.take i) a y))/\jI u.fn v:=by
 unfold iy;rw [BU];constructor
 ·rintro ⟨i,v,h1,h2,h3⟩
  obtain ⟨a1,a2,t,ht,a3⟩:=(xA (n:=n) _ _ (fun t ht=>hc t (gp.1 ht)) (fun v hv=>ho v (List.mem_of_mem_take hv))).1 h2;exact ⟨i,v,h1,a1,a2,⟨t,gp.1 ht,a3⟩,(nG a1 (by rw [a2];exact ho v (List.mem_of_getElem? h1))).1 h3⟩
 ·rintro ⟨i,v,h1,a1,a2,⟨t,ht,a3⟩,h3⟩
  exact ⟨i,v,h1,(xA (n:=n) _ _ (fun t ht=>hc t (gp.1 ht)) (fun v hv=>ho v (List.mem_of_mem_take hv))).2 ⟨a1,a2,t,gp.2 ht,a3⟩,(nG a1 (by rw [a2];exact ho v (List.mem_of_getElem? h1))).2 h3⟩
theorem KV.Perm.jX {K:KV} (h:K.Perm) {l v:Nat}:v∈K.order.take l↔v<K.vars/\K.lev v<l:=by
 constructor
 ·intro hv
  obtain ⟨i,hi⟩:=List.getElem?_of_mem hv;rw [List.getElem?_take] at hi
  split at hi
  ·rename_i fF
   have aW:i<K.order.length:=by
    by_cases e:i<K.order.length
    ·exact e
    ·rw [List.getElem?_eq_none (by omega)] at hi;cases hi
   have e:K.order.getD i 0=v:=by rw [List.getD_eq_getElem?_getD,hi];rfl
   have:=h.oo i (by rw [<- h.ol];exact aW);rw [e] at this;exact ⟨this.1,by omega⟩
  ·cases hi
 ·rintro ⟨hv,hl⟩
  have:=h.lo v hv
  have hi:K.order[K.lev v]?=some v:=by
   rw [List.getElem?_eq_getElem (by rw [h.ol];exact this.1)];have e:=this.2;rw [List.getD_eq_getElem?_getD,List.getElem?_eq_getElem (by rw [h.ol];exact this.1)] at e
   simpa using e
  exact List.mem_of_getElem? (i:=K.lev v) (by rw [List.getElem?_take,if_pos hl];exact hi)
theorem KV.Perm.mP {K:KV} (h:K.Perm) {v:Nat} (hv:v∈K.order):v<K.vars:=by
 have:=h.jX (l:=K.order.length) (v:=v);rw [List.take_length] at this;exact (this.1 hv).1
theorem KV.Perm.nI {K:KV} (h:K.Perm) {v:Nat} (hv:v<K.vars):K.order[K.lev v]?=some v:=by
 have:=h.lo v hv;rw [List.getElem?_eq_getElem (by rw [h.ol];exact this.1)];have e:=this.2;rw [List.getD_eq_getElem?_getD,List.getElem?_eq_getElem (by rw [h.ol];exact this.1)] at e
 simpa using e
theorem KV.Perm.lU {K:KV} (h:K.Perm) {i v:Nat} (hi:K.order[i]?=some v):v<K.vars/\K.lev v=i:=by
 have aW:i<K.order.length:=by
  by_cases e:i<K.order.length
  ·exact e
  ·rw [List.getElem?_eq_none (by omega)] at hi;cases hi
 have e:K.order.getD i 0=v:=by rw [List.getD_eq_getElem?_getD,hi];rfl
 have:=h.oo i (by rw [<- h.ol];exact aW)
 rw [e] at this;exact this
theorem KV.Perm.jH {K:KV} (h:K.Perm) (l:Nat) (a y:Nat->Bool):jH (K.order.take l) a y=K.mix l a y:=by
 funext v
 simp only [Go.Proofs.YtfkopmhpppeheaaGreat.jH,KV.mix]
 by_cases e:v∈K.order.take l
 ·rw [if_pos e,if_pos (h.jX.1 e)]
 ·rw [if_neg e,if_neg fun k=>e (h.jX.2 k)]
def KV.tab (K:KV) (r:Nat):TV:=rU K.vars fun x=>K.den r fun v=>x.testBit v
theorem KV.Ok.OW {K:KV} (hk:K.Ok) {r:Nat} (ht:K.A.tk r=true) {x y:Nat->Bool} (h:∀ v,v<K.vars->x v=y v):K.den r x=K.den r y :=
 KV.jb hk.wf hk.ord _ r x y ht (Nat.le_refl _) fun v hv _=>h v hv
theorem KV.Ok.pg {K:KV} (hk:K.Ok) {r:Nat} (ht:K.A.tk r=true) (y:Nat->Bool):(K.tab r).fn y=K.den r y:=by
 unfold KV.tab;rw [yG]
 exact hk.OW ht fun v hv=>by rw [jg];simp [hv]
theorem KV.UB {K:KV} (h:K.vars<=16) (r:Nat):(K.tab r).Ok/\(K.tab r).n=K.vars:=⟨nC _ h,rfl⟩
theorem KV.Ok.tab_eq {K:KV} (hk:K.Ok) (hn:K.vars<=16) {r:Nat} (ht:K.A.tk r=true) {t:TV} (h1:t.Ok) (h2:t.n=K.vars) (h:∀ y,K.den r y=t.fn y):K.tab r=t :=
 TV.yE (KV.UB hn r).1 h1 h2.symm fun y=>by rw [hk.pg ht,h]
theorem KV.Ok.Hq {K:KV} (hk:K.Ok) (hu:K.Uni) {r s:Nat} (hr:K.A.tk r=true) (hs:K.A.tk s=true) (e:K.tab r=K.tab s):r=s :=
 KV.canon hk.wf hk.ord hu _ _ _ hr hs (Nat.le_refl _) fun y=>by rw [<- hk.pg hr,<- hk.pg hs,e]
def KV.nodes (K:KV):List Nat:=K.lives.filter fun r=>decide (2<=r)
theorem KV.bP {K:KV} {r:Nat}:r∈K.nodes↔2<=r/\K.A.tk r=true:=by
 simp only [KV.nodes,List.mem_filter,KV.dQ,decide_eq_true_eq];exact And.comm
theorem KV.gq (K:KV):K.nodes.Nodup:=List.Pairwise.filter _ K.ja
theorem KV.Ok.nodes_len {K:KV} (hk:K.Ok):K.nodes.length+2=K.A.used:=by
 rw [<- K.pV hk.wf];have h01:=hk.wf.ok.oq;refine Nat.le_antisymm ?_ ?_
 ·have:(0::1::K.nodes).length<=K.lives.length:=List.Nodup.length_le_of_subset (by
   rw [List.nodup_cons,List.nodup_cons]
   exact ⟨by simp [KV.bP],by simp [KV.bP],K.gq⟩) (by
   intro x hx
   rcases List.mem_cons.1 hx with rfl | hx
   ·exact KV.dQ.2 h01.1
   ·rcases List.mem_cons.1 hx with rfl | hx
    ·exact KV.dQ.2 h01.2
    ·exact KV.dQ.2 (KV.bP.1 hx).2)
  simpa using this
 ·have:K.lives.length<=(0::1::K.nodes).length:=List.Nodup.length_le_of_subset K.ja (by
   intro x hx
   have ht:=KV.dQ.1 hx
   by_cases h0:x=0
   ·simp [h0]
   ·by_cases h1:x=1
    ·simp [h1]
    ·exact List.mem_cons_of_mem _ (List.mem_cons_of_mem _ (KV.bP.2 ⟨by omega,ht⟩)))
  simpa using this
structure pq (K:KV) (L:List TV):Prop where
 rt:∀ r,0<K.hold r->∃ t,t∈L/\∀ y,K.den r y=t.fn y
 lr:∀ t,t∈L->∃ r,K.A.tk r=true/\∀ y,K.den r y=t.fn y
 ok:∀ t,t∈L->t.Ok/\t.n=K.vars
def Yh (K:KV) (L:List TV) (g:(Nat->Bool)->Bool):Prop:=∃ t,t∈L/\K.jv t.fn g
theorem Hr (K:KV) {l i:Nat} (h:l<=i) (a c y:Nat->Bool):K.mix l a (K.mix i c y)=K.mix i (K.mix l a c) y:=by
 funext v
 simp only [KV.mix]
 by_cases h1:v<K.vars/\K.lev v<l
 ·rw [if_pos h1,if_pos ⟨h1.1,by omega⟩,if_pos h1]
 ·rw [if_neg h1]
  by_cases h2:v<K.vars/\K.lev v<i
  ·rw [if_pos h2,if_pos h2,if_neg h1]
  ·rw [if_neg h2,if_neg h2]
theorem nJ {K:KV} (hp:K.Perm) {g:(Nat->Bool)->Bool}:∀ (i:Nat),i<=K.vars->(∀ v,v<K.vars->K.lev v<i->¬ jI g v)->∀ (c y:Nat->Bool),g (K.mix i c y)=g y
 | 0,_,_,c,y=>by congr 1;funext v;simp [KV.mix]
 | i+1,hi,h,c,y=>by
  have ih:=nJ hp i (by omega) (fun v h1 h2=>h v h1 (by omega)) c y;have hv:=hp.oo i (by omega);obtain ⟨v,hve⟩ : ∃ v,K.order.getD i 0=v:=⟨_,rfl⟩;rw [hve] at hv
  have e:K.mix (i+1) c y=upd (K.mix i c y) v (c v):=by
   funext u
   simp only [KV.mix,upd]
   by_cases hu:u=v
   ·subst hu;rw [if_pos rfl,if_pos ⟨hv.1,by omega⟩]
   ·rw [if_neg hu]
    by_cases h1:u<K.vars/\K.lev u<i
    ·rw [if_pos h1,if_pos ⟨h1.1,by omega⟩]
    ·rw [if_neg h1,if_neg]
     rintro ⟨h2,h3⟩;refine hu (hp.inj h2 hv.1 ?_);omega
  have hn:=h v hv.1 (by omega)
  have same:∀ (z:Nat->Bool) (b:Bool),g (upd z v b)=g z:=fun z b=>by
   have e1:g (upd z v true)=g (upd z v false):=by
    by_cases e1:g (upd z v true)=g (upd z v false)
    ·exact e1
    ·exact absurd ⟨z,e1⟩ hn
   have e2:g z=g (upd z v (z v)):=by rw [yL]
   rw [e2]
   cases b <;> cases z v <;> simp_all
  rw [e,same,ih]
theorem BX {K:KV} (g:(Nat->Bool)->Bool):∀ (k:Nat),(∀ v,v<K.vars->K.lev v<k->¬ jI g v)\/∃ v,v<K.vars/\jI g v/\∀ u,u<K.vars->K.lev u<K.lev v->¬ jI g u
 | 0=>.inl fun v _ h=>by omega
 | k+1=>by
  rcases BX g k with h | h
  ·by_cases hh:∃ v,v<K.vars/\K.lev v=k/\jI g v
   ·obtain ⟨v,h1,h2,h3⟩:=hh
    exact .inr ⟨v,h1,h3,fun u hu hl=>h u hu (by omega)⟩
   ·refine .inl fun v hv hl hg=>?_
    by_cases e:K.lev v=k
    ·exact hh ⟨v,hv,e,hg⟩
    ·exact h v hv (by omega) hg
  ·exact .inr h
theorem OX {K:KV} (hp:K.Perm) {L:List TV} (hL:∀ t,t∈L->t.Ok/\t.n=K.vars) {u:TV} (h1:u.Ok) (h2:u.n=K.vars) (hs:Yh K L u.fn) {v:Nat} (hv:v<K.vars) (hh:jI u.fn v) (bK:∀ x,x<K.vars->K.lev x<K.lev v->¬ jI u.fn x) :
  u∈iy L K.order:=by
 obtain ⟨t,ht,l,a,he⟩:=hs;refine (jh hL fun x hx=>hp.mP hx).2 ⟨K.lev v,v,hp.nI hv,h1,h2,⟨t,ht,K.mix l a (fun _=>false),fun y=>?_⟩,hh⟩
 have hl:l<=K.lev v:=by
  by_cases hl:l<=K.lev v
  ·exact hl
  ·exfalso
   obtain ⟨y,hy⟩:=hh;refine hy ?_;rw [he,he]
   congr 1
   funext x
   simp only [KV.mix,upd]
   by_cases e:x=v
   ·subst e;rw [if_pos ⟨hv,by omega⟩,if_pos ⟨hv,by omega⟩]
   ·simp [e]
 have Ht:=(hp.lo v hv).1;rw [hp.jH,<- Hr K hl,<- he,nJ hp _ (by omega) bK]
theorem KV.Ok.gI {K:KV} (hk:K.Ok) (hu:K.Uni) {r:Nat} (h2:2<=r) (ht:K.A.tk r=true):∃ v,v<K.vars/\K.dep r=K.lev v/\jI (K.den r) v/\∀ x,x<K.vars->K.lev x<K.lev v->¬ jI (K.den r) x:=by
 obtain ⟨p,v,hp,aH,hv,gK,h3,h4,hd⟩:=hk.wf.cZ h2 ht;refine ⟨v,gK,hd,?_,fun x hx hl=>?_⟩
 ·by_cases hh:jI (K.den r) v
  ·exact hh
  ·exfalso
   refine hk.ord.ne r p h2 hp aH (KV.canon hk.wf hk.ord hu _ _ _ h3 h4 (Nat.le_refl _) fun y=>?_)
   have e:K.den r (upd y v true)=K.den r (upd y v false):=by
    by_cases e:K.den r (upd y v true)=K.den r (upd y v false)
    ·exact e
    ·exact absurd ⟨y,e⟩ hh
   have wZ:p.var.toNat=v:=by omega
   have a1:=KV.kP hk.wf hk.ord h2 hp aH y;have a2:=KV.kQ hk.wf hk.ord h2 hp aH y;rw [wZ] at a1 a2;rw [<- a1,<- a2,e]
 ·rintro ⟨y,hy⟩
  refine hy ?_;rw [KV.dF hk.wf hk.ord ht hx (by omega),KV.dF hk.wf hk.ord ht hx (by omega)]
theorem pq.sub {K:KV} {L:List TV} (h:pq K L) (hk:K.Ok) {r:Nat} (hr:K.Reach r):Yh K L (K.den r):=by
 have key:∀ {r:Nat},K.Reach r->∃ t,t∈L/\∃ a,∀ y,K.den r y=t.fn (K.mix (K.dep r) a y):=by
  intro r hr
  induction hr with
  | root h0 =>
   obtain ⟨t,ht,he⟩:=h.rt _ h0;refine ⟨t,ht,fun _=>false,fun y=>?_⟩;rw [<- he]
   refine KV.jb hk.wf hk.ord _ _ _ _ (hk.wf.ht _ h0).2 (Nat.le_refl _) fun v hv hd=>?_
   simp only [KV.mix];rw [if_neg (by omega)]
  | @lo q p hq h2 hp aH ih =>
   obtain ⟨t,ht,a,he⟩:=ih;obtain ⟨_,v,jo,_,hv,gK,h3,h4,hd⟩:=hk.wf.cZ h2 (ag.aP.2 ⟨p,hp,aH⟩)
   rw [hp] at jo;cases jo
   have wZ:p.var.toNat=v:=by omega
   have hb:=hk.ord.below hk.wf h2 hp aH;refine ⟨t,ht,K.mix (K.dep q) a (upd (fun _=>false) v false),fun y=>?_⟩
   have e1:K.den p.lo y=K.den p.lo (K.mix (K.dep p.lo) (fun _=>false) y):=KV.jb hk.wf hk.ord _ _ _ _ h3 (Nat.le_refl _) fun x hx hdx=>by
    simp only [KV.mix];rw [if_neg (by omega)]
   rw [e1,<- KV.kQ hk.wf hk.ord h2 hp aH,he,<- Hr K (by omega)]
   congr 1
   funext x
   simp only [KV.mix,upd,wZ]
   by_cases h5:x<K.vars/\K.lev x<K.dep q
   ·rw [if_pos h5,if_pos h5]
   ·rw [if_neg h5,if_neg h5]
    by_cases e:x=v
    ·subst e;rw [if_pos rfl,if_pos ⟨gK,by omega⟩,if_pos rfl]
    ·rw [if_neg e]
     by_cases h6:x<K.vars/\K.lev x<K.dep p.lo
     ·rw [if_pos h6,if_pos h6,if_neg e]
     ·rw [if_neg h6,if_neg h6]
  | @hi q p hq h2 hp aH ih =>
   obtain ⟨t,ht,a,he⟩:=ih;obtain ⟨_,v,jo,_,hv,gK,h3,h4,hd⟩:=hk.wf.cZ h2 (ag.aP.2 ⟨p,hp,aH⟩)
   rw [hp] at jo;cases jo
   have wZ:p.var.toNat=v:=by omega
   have hb:=hk.ord.below hk.wf h2 hp aH;refine ⟨t,ht,K.mix (K.dep q) a (upd (fun _=>false) v true),fun y=>?_⟩
   have e1:K.den p.hi y=K.den p.hi (K.mix (K.dep p.hi) (fun _=>false) y):=KV.jb hk.wf hk.ord _ _ _ _ h4 (Nat.le_refl _) fun x hx hdx=>by
    simp only [KV.mix];rw [if_neg (by omega)]
   rw [e1,<- KV.kP hk.wf hk.ord h2 hp aH,he,<- Hr K (by omega)]
   congr 1
   funext x
   simp only [KV.mix,upd,wZ]
   by_cases h5:x<K.vars/\K.lev x<K.dep q
   ·rw [if_pos h5,if_pos h5]
   ·rw [if_neg h5,if_neg h5]
    by_cases e:x=v
    ·subst e;rw [if_pos rfl,if_pos ⟨gK,by omega⟩,if_pos rfl]
    ·rw [if_neg e]
     by_cases h6:x<K.vars/\K.lev x<K.dep p.hi
     ·rw [if_pos h6,if_pos h6,if_neg e]
     ·rw [if_neg h6,if_neg h6]
 obtain ⟨t,ht,a,he⟩:=key hr;exact ⟨t,ht,K.dep r,a,he⟩
theorem KV.Jv {K:KV} (hk:K.Ok) (hu:K.Uni) (hn:K.vars<=16) {L:List TV} (hL:∀ t,t∈L->t.Ok/\t.n=K.vars) {r:Nat} (h2:2<=r) (ht:K.A.tk r=true) (hs:Yh K L (K.den r)):K.tab r∈iy L K.order:=by
 obtain ⟨v,hv,_,hh,bK⟩:=hk.gI hu h2 ht
 have e:(K.tab r).fn=K.den r:=funext fun y=>hk.pg ht y
 exact OX hk.ord.pm hL (KV.UB hn r).1 rfl (by rw [e];exact hs) hv (by rw [e];exact hh) (by rw [e];exact bK)
theorem pq.mem {K:KV} {L:List TV} (h:pq K L) (hk:K.Ok) (hu:K.Uni) (hn:K.vars<=16) {u:TV}:u∈iy L K.order↔∃ r,2<=r/\K.A.tk r=true/\K.tab r=u:=by
 constructor
 ·intro hm
  obtain ⟨i,v,h1,a1,a2,⟨t,ht,a,he⟩,hh⟩:=(jh h.ok fun x hx=>hk.ord.pm.mP hx).1 hm;obtain ⟨f,tf,hf⟩:=h.lr t ht;obtain ⟨x,tx,hx⟩:=KV.lS hk i a _ f (Nat.le_refl _) tf
  have hd:∀ y,K.den x y=u.fn y:=fun y=>by rw [hx,hf,he,hk.ord.pm.jH]
  refine ⟨x,?_,tx,hk.tab_eq hn tx a1 a2 hd⟩
  by_cases h2:2<=x
  ·exact h2
  ·exfalso
   obtain ⟨y,hy⟩:=hh;refine hy ?_;rw [<- hd,<- hd,K.aN (by omega),K.aN (by omega)]
 ·rintro ⟨r,h2,ht,rfl⟩
  exact KV.Jv hk hu hn h.ok h2 ht (h.sub hk (KV.mZ hk.wf hk.pos hk.ord _ r h2 ht (Nat.le_refl _)))
theorem pq.used {K:KV} {L:List TV} (h:pq K L) (hk:K.Ok) (hu:K.Uni) (hn:K.vars<=16):K.A.used=(iy L K.order).length+2:=by
 rw [<- hk.nodes_len];have nd:(K.nodes.map K.tab).Nodup:=List.pairwise_map.2 (List.Pairwise.imp_of_mem (fun {a b} ha hb hne e=>hne (hk.Hq hu (KV.bP.1 ha).2 (KV.bP.1 hb).2 e)) K.gq)
 have e:(K.nodes.map K.tab).length=(iy L K.order).length:=by
  refine Nat.le_antisymm (List.Nodup.length_le_of_subset nd fun u hm=>?_) (List.Nodup.length_le_of_subset (Ju h.ok fun x hx=>hk.ord.pm.mP hx) fun u hm=>?_)
  ·obtain ⟨r,hr,rfl⟩:=List.mem_map.1 hm
   obtain ⟨h2,ht⟩:=KV.bP.1 hr;exact (h.mem hk hu hn).2 ⟨r,h2,ht,rfl⟩
  ·obtain ⟨r,h2,ht,rfl⟩:=(h.mem hk hu hn).1 hm
   exact List.mem_map.2 ⟨r,KV.bP.2 ⟨h2,ht⟩,rfl⟩
 rw [List.length_map] at e;omega
def tH (K0:KV) (S:((Nat->Bool)->Bool)->Prop):Prop :=
 ∃ (K:KV) (g:(Nat->Bool)->Bool),K.Ok/\K.Uni/\K0.Ext K/\(∀ x,K.A.tk x=true->K0.A.tk x=false->S (K.den x))/\K.A.used=K.A.places/\S g/\∀ x,K.A.tk x=true->¬ ∀ y,K.den x y=g y
theorem pq.afa {K:KV} {L:List TV} (h:pq K L) (hk:K.Ok) (hn:K.vars<=16) {t:TV} (ht:t.Ok) (vg:t.n=K.vars) (bK:tH K (K.jv t.fn)):K.A.places<(iy (L++[t]) K.order).length+2:=by
 obtain ⟨K1,g,k1,u1,ext,new,uP,hg,hx⟩:=bK
 have hL:∀ s,s∈L++[t]->s.Ok/\s.n=K.vars:=fun s hs=>by
  rcases List.mem_append.1 hs with hs | hs
  ·exact h.ok s hs
  ·simp at hs;subst hs;exact ⟨ht,vg⟩
 have hL1:∀ s,s∈L++[t]->s.Ok/\s.n=K1.vars:=fun s hs=>by rw [ext.vr];exact hL s hs
 have AO:K1.vars<=16:=by rw [ext.vr];exact hn
 have afb:∀ {g:(Nat->Bool)->Bool} {s:TV},K.jv s.fn g->K1.jv s.fn g:=fun {g s} ⟨l,a,he⟩=>⟨l,a,fun y=>by rw [he,ext.mix]⟩
 have mr:∀ r,2<=r->K1.A.tk r=true->Yh K1 (L++[t]) (K1.den r):=fun r h2 kC=>by
  by_cases h0:K.A.tk r=true
  ·obtain ⟨s,hs,hh⟩:=h.sub hk (KV.mZ hk.wf hk.pos hk.ord _ r h2 h0 (Nat.le_refl _))
   have e:K1.den r=K.den r:=funext fun y=>ext.den hk.wf y h0
   rw [e];exact ⟨s,by simp [hs],afb hh⟩
  ·exact ⟨t,by simp,afb (new r kC (by simpa using h0))⟩
 obtain ⟨l,a,he⟩:=hg
 have Ew:∀ x y:Nat->Bool,(∀ v,v<K1.vars->x v=y v)->g x=g y:=fun x y nZ=>by
  rw [he,he]
  refine TV.AU t fun v hv=>?_
  simp only [KV.mix]
  rw [vg,<- ext.vr] at hv;rw [nZ v hv]
 obtain ⟨u,Qz⟩ : ∃ u:TV,u=rU K1.vars fun x=>g fun v=>x.testBit v:=⟨_,rfl⟩
 have Lt:u.fn=g:=by
  funext y
  rw [Qz,yG]
  exact Ew _ _ fun v hv=>by rw [jg];simp [hv]
 have huo:u.Ok:=by rw [Qz];exact nC _ AO
 have uZ:u.n=K1.vars:=by rw [Qz];rfl
 have vS:u∈iy (L++[t]) K1.order:=by
  rcases BX (K:=K1) g K1.vars with hc | ⟨v,hv,hh,Fe⟩
  ·exfalso
   have hconst:∀ y,g y=g fun _=>false:=fun y=>by
    have e1:=nJ k1.ord.pm (g:=g) K1.vars (Nat.le_refl _) hc (fun _=>false) y;rw [<- e1]
    exact Ew _ _ fun v hv=>by simp only [KV.mix];rw [if_pos ⟨hv,(k1.ord.pm.lo v hv).1⟩]
   cases hb:g fun _=>false with
   | true=>exact hx 1 k1.wf.ok.oq.2 fun y=>by rw [hconst,hb,K1.aN (by omega)];rfl
   | false=>exact hx 0 k1.wf.ok.oq.1 fun y=>by rw [hconst,hb,K1.aN (by omega)];rfl
  ·exact OX k1.ord.pm hL1 huo uZ ⟨t,by simp,l,a,fun y=>by rw [Lt,he,ext.mix]⟩ hv (by rw [Lt];exact hh) (by rw [Lt];exact Fe)
 have nd:(u::K1.nodes.map K1.tab).Nodup:=by
  rw [List.nodup_cons];refine ⟨fun hm=>?_,List.pairwise_map.2 (List.Pairwise.imp_of_mem (fun {a b} ha hb hne e=>hne (k1.Hq u1 (KV.bP.1 ha).2 (KV.bP.1 hb).2 e)) K1.gq)⟩;obtain ⟨r,hr,e⟩:=List.mem_map.1 hm;obtain ⟨h2,kC⟩:=KV.bP.1 hr
  refine hx r kC fun y=>?_
  rw [<- Lt,<- e,k1.pg kC]
 have hle:=List.Nodup.length_le_of_subset nd (l₂:=iy (L++[t]) K1.order) fun z hz=>by
  rcases List.mem_cons.1 hz with rfl | hz
  ·exact vS
  ·obtain ⟨r,hr,rfl⟩:=List.mem_map.1 hz
   obtain ⟨h2,kC⟩:=KV.bP.1 hr;exact KV.Jv k1 u1 AO hL1 h2 kC (mr r h2 kC)
 rw [List.length_cons,List.length_map,ext.od] at hle;have h5:=k1.nodes_len;have h6:=ext.pl;omega
end Go.Proofs.YtfkopmhpppeheaaGreat
namespace Go.Proofs.YtfkopmhpppeheaaGreat
open Go.RowKit Go.Maps Go.ChangeMaps Go.WideShapes
theorem UC {a b:Bool} (h:a=b):Ending.returned (.bool a)=.returned (.bool b):=by rw [h]
theorem Yi {k:IntKind} {a b:Int} (h:a=b):Ending.returned (.int k a)=.returned (.int k b):=by rw [h]
theorem BZ {P:Program} (w:World) (base:Nat) (t ty e:TypeId) (i:TypeInfo) (z:Value) (size bytes:Nat) (ht:P.underlying t=some (.slice e)) (hi:P.info? e=some i) (hz:i.zero=some z)
  (hsize:i.size=size) (hby:i.bytes=bytes) (hzs:z.cells.size=size) (dG:0<size)
  (v:Value) (n:Nat) (xs:List Value) (aK:w.ownsRow base e size v n xs)
  (A:Option Addr) (m c:Nat) (news:List Value) (hA:A=none->m=0) (hl:news.length=m*size) (hnews:∀ ad,A=some ad->∀ j u,news[j]?=some u->w.cell? (ad.add j)=some u) (h1:∀ u∈news,u.oneCell'=true)
  (h63:n+m<=maxLen) (hbytes:(n+m)*bytes<=140737488355328) (Cb:base<=w.heap.size) :
  ∃ v' w',(Builtin.append_ #[t,t] ty #[v,.slice A m c]).run P w=.ok v' w'/\w'.ownsRow base e size v' (n+m) (xs++news)/\w.grownBy w' v.ownBlock/\(v'.ownBlock=v.ownBlock\/v'.ownBlock=some w.heap.size):=by
 cases A with
 | none =>
  obtain rfl:=hA rfl;have hn:news=[]:=List.eq_nil_of_length_eq_zero (by simpa using hl);subst hn;refine ⟨v,w,?_,by simpa using aK,World.grownBy.refl w _,.inl rfl⟩
  rcases aK.2 with ⟨rfl,rfl⟩ | ⟨g,cap,cur,rfl,_,_,hnc,_⟩
  ·simp [Builtin.append_,run_underlying ht,sizeOf,typeInfo,hi,Builtin.lenOf,Builtin.firstCells]
  ·simp [Builtin.append_,run_underlying ht,sizeOf,typeInfo,hi,Builtin.lenOf,Builtin.firstCells,hnc,storeCells]
 | some ad =>
  obtain ⟨v',w',gW,h2,h3,_,h5⟩:=run_append_own_at (P:=P) w base t ty e i z size bytes ht hi hz hsize hby hzs dG v n xs aK ad m c news hl (hnews ad rfl) h1 h63 hbytes Cb;exact ⟨v',w',gW,h2,h3,h5⟩
theorem Ey {P:Program} {w:World} {o:Oper} {a:Act} {K:Act->World->Prop} {Q:Exit->Act->World->Prop} (s x:Operand) (t:TypeId)
  (ho:o.op=.call { callee:=.builtin .append,args:=#[s,x],argTypes:=#[t,t] })
  (base:Nat) (e:TypeId) (i:TypeInfo) (z:Value) (size bytes:Nat) (ht:P.underlying t=some (.slice e)) (hi:P.info? e=some i) (hz:i.zero=some z)
  (hsize:i.size=size) (hby:i.bytes=bytes) (hzs:z.cells.size=size) (dG:0<size)
  (v:Value) (n:Nat) (xs:List Value) (hs:a.eval s=v) (aK:w.ownsRow base e size v n xs)
  (A:Option Addr) (m c:Nat) (news:List Value) (hx:a.eval x=.slice A m c) (hA:A=none->m=0) (hl:news.length=m*size) (hnews:∀ ad,A=some ad->∀ j u,news[j]?=some u->w.cell? (ad.add j)=some u) (h1:∀ u∈news,u.oneCell'=true)
  (h63:n+m<=maxLen) (hbytes:(n+m)*bytes<=140737488355328) (Cb:base<=w.heap.size)
  (h:∀ v' w',w'.ownsRow base e size v' (n+m) (xs++news)->w.grownBy w' v.ownBlock->(v'.ownBlock=v.ownBlock\/v'.ownBlock=some w.heap.size)->K (a.put o.dst v') w'):o.wp P a w K Q:=by
 obtain ⟨v',w',gW,h2,h3,h4⟩:=BZ (P:=P) w base t o.type e i z size bytes ht hi hz hsize hby hzs dG v n xs aK A m c news hA hl hnews h1 h63 hbytes Cb;unfold Oper.wp execOp
 simp only [ho,resolve,invoke,builtin,Sem.run_bind,Sem.run_pure,Result.andThen_ok,List.map_toArray,List.map_cons,List.map_nil,hs,hx,gW]
 exact h v' w' h2 h3 h4
theorem iY {P:Program} {w:World} {ops:Array Oper} {rest:List Oper} {o:Oper} {a:Act} {Q:Exit->Act->World->Prop} (hgd:o.guard=none) (s x:Operand) (t:TypeId)
  (ho:o.op=.call { callee:=.builtin .append,args:=#[s,x],argTypes:=#[t,t] })
  (base:Nat) (e:TypeId) (i:TypeInfo) (z:Value) (size bytes:Nat) (ht:P.underlying t=some (.slice e)) (hi:P.info? e=some i) (hz:i.zero=some z)
  (hsize:i.size=size) (hby:i.bytes=bytes) (hzs:z.cells.size=size) (dG:0<size)
  (v:Value) (n:Nat) (xs:List Value) (hs:a.eval s=v) (aK:w.ownsRow base e size v n xs)
  (A:Option Addr) (m c:Nat) (news:List Value) (hx:a.eval x=.slice A m c) (hA:A=none->m=0) (hl:news.length=m*size) (hnews:∀ ad,A=some ad->∀ j u,news[j]?=some u->w.cell? (ad.add j)=some u) (h1:∀ u∈news,u.oneCell'=true)
  (h63:n+m<=maxLen) (hbytes:(n+m)*bytes<=140737488355328) (Cb:base<=w.heap.size)
  (h:∀ v' w',w'.ownsRow base e size v' (n+m) (xs++news)->w.grownBy w' v.ownBlock->(v'.ownBlock=v.ownBlock\/v'.ownBlock=some w.heap.size)->wpList P ops Q rest (a.put o.dst v') w'):wpList P ops Q (o::rest) a w :=
 wpList_plain hgd fun _ hK=>Ey s x t ho base e i z size bytes ht hi hz hsize hby hzs dG v n xs hs aK A m c news hx hA hl hnews h1 h63 hbytes Cb fun v' w' h2 h3 h4=>hK _ _ (h v' w' h2 h3 h4)
theorem Cc:∀ (o:List Nat) (c:List TV),(iJ c o).flatten.length<=o.length*(2 ^ o.length*c.length)
 | [],c=>by simp [iJ]
 | x::o,c=>by
  have ih:=Cc o (bU c x);have hg:=vN c x;have hn:(eX c x).length<=c.length:=List.length_filter_le _ _
  show (eX c x::iJ (bU c x) o).flatten.length<=_
  rw [List.flatten_cons,List.length_append,List.length_cons,Nat.pow_succ,Nat.add_mul,Nat.one_mul]
  have h1:o.length*(2 ^ o.length*(bU c x).length)<=o.length*(2 ^ o.length*2*c.length):=by
   refine Nat.mul_le_mul_left _ ?_
   rw [Nat.mul_assoc];exact Nat.mul_le_mul_left _ hg
  have h2:c.length<=2 ^ o.length*2*c.length:=by
   have:1<=2 ^ o.length*2:=by have:=Nat.two_pow_pos o.length;omega
   calc c.length=1*c.length:=by rw [Nat.one_mul]
    _<=_:=Nat.mul_le_mul_right _ this
  omega
theorem FU {o:List Nat} {c:List TV} (ho:o.length<=8) (hc:c.length<=4194304):(iJ c o).flatten.length<=8589934592:=by
 have h1:=Cc o c
 have h2:2 ^ o.length<=256:=by
  calc 2 ^ o.length<=2 ^ 8:=Nat.pow_le_pow_right (by omega) ho
   _=256:=rfl
 have h3:2 ^ o.length*c.length<=256*4194304:=Nat.mul_le_mul h2 hc;have h4:o.length*(2 ^ o.length*c.length)<=8*(256*4194304):=Nat.mul_le_mul ho h3;omega
theorem FV {o:List Nat} {c:List TV} (ho:o.length<=8) (hc:c.length<=66000):(iJ c o).flatten.length<=135168000:=by
 have h1:=Cc o c
 have h2:2 ^ o.length<=256:=by
  calc 2 ^ o.length<=2 ^ 8:=Nat.pow_le_pow_right (by omega) ho
   _=256:=rfl
 have h3:2 ^ o.length*c.length<=256*66000:=Nat.mul_le_mul h2 hc;have h4:o.length*(2 ^ o.length*c.length)<=8*(256*66000):=Nat.mul_le_mul ho h3;omega
theorem Ce {L:List (List TV)} {i:Nat} {l:List TV} (h:L[i]?=some l):(L.take (i+1)).flatten.length=(L.take i).flatten.length+l.length:=by
 rw [List.take_add_one,h];simp [List.flatten_append]
theorem qL (L:List (List TV)) (i:Nat):(L.take i).flatten.length<=L.flatten.length:=by
 have:L.flatten.length=(L.take i).flatten.length+(L.drop i).flatten.length:=by
  rw [<- List.length_append,<- List.flatten_append,List.take_append_drop]
 omega
theorem MP (n0 n1:Nat) (Z:List Nat) (v vo:Value) (L:List TV) (o:List Nat) (n:Nat) (w:World) (h:iI w n0 Z v L) (hZ:∀ k,k∈Z->k<w.heap.size) (hl:L.length<=4194304)
  (hn:∀ t,t∈L->t.n=n) (hn6:n<=8) (ho:w.ownsRow n1 3 1 vo o.length (aQ o)) (yC:o.length<=8) (X5:∀ x,x∈o->x<n) :
  Calls Tryz.prog 194 #[v,vo] w fun e w'=>e=.returned (.int .i64 ((iy L o).length:Nat))/\af [] w w':=by
 have QA:=Lib.hid (tq n0 n1 Z v vo L o n w h hZ hl hn hn6 ho yC X5);have I9:(iy L o).length<=8589934592:=FU yC (Nat.le_trans (iw L) hl)
 have Bv:(iJ (bz L) o).length<=8:=by rw [xy];exact yC
 unfold iy at I9 ⊢;generalize iJ (bz L) o=LL at *;obtain ⟨fa,fc,rfl,MI⟩:=h.form;obtain ⟨oa,oc,rfl,hof⟩:=aj ho;clear h hZ hl hn hn6 ho yC X5 MI hof
 go_enter Tryz.func194,Tryz.ntmps194
 go_wp2_with fail;refine QA.out.mono ?_;rintro e w1 hE;obtain ⟨cv,rfl,hC,iq⟩:=hE.ex;obtain ⟨aa,ac,hav,hag⟩:=hC.form;subst hav;have HC:=Lib.hid (And.intro hC iq);clear hC iq hE QA;go_wp2_with fail
 go_loopg [5,12] LL.length (fun g s5 s12 wr=>∃ i:Nat,LL.length-i=g/\i<=LL.length/\s12=.int .i64 i/\s5=.int .i64 ((LL.take i).flatten.length:Nat)/\wr=w1)
 case atStart=>exact ⟨0,by omega,by omega,rfl,by simp,rfl⟩
 case round =>
  obtain ⟨i,rfl,hi,rfl,rfl,rfl⟩:=hrel
  by_cases aW:i<LL.length
  ·obtain ⟨l,hl⟩ : ∃ l,LL[i]?=some l:=⟨_,List.getElem?_eq_getElem aW⟩
   obtain ⟨ga,rfl⟩:=hag (by omega);obtain ⟨cl,x0,Hu⟩:=HC.out.1.at_ hl;obtain ⟨la,lc,uF,_⟩:=Hu.form;subst uF
   have fF:(i:Int)<(LL.length:Int):=by omega
   have HS:=Lib.hid (Ce hl);have dR:=qL LL (i+1);rw [HS.out] at dR
   have hb:(LL.take i).flatten.length+l.length<=8589934592:=by omega
   clear dR hl Hu;generalize (LL.take i).flatten.length=S at *;go_wp2_with fail
   go_roundg (LL.length-(i+1))
   case measure=>omega
   case rel=>exact ⟨i+1,rfl,by omega,by simp,by rw [HS.out];simp,rfl⟩
  ·obtain rfl:i=LL.length:=by omega
   have fF:¬ ((LL.length:Int)<(LL.length:Int)):=by omega
   rw [List.take_length];go_wp2_with fail;go_ret;exact ⟨rfl,HC.out.2⟩
end Go.Proofs.YtfkopmhpppeheaaGreat
