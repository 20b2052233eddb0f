import Derived.Test.YtfkopmhpppeheaaGreatPN14
set_option maxRecDepth 100000
set_option maxHeartbeats 3200000
namespace Go.Proofs.YtfkopmhpppeheaaGreat
open Go.RowKit Go.Maps Go.ChangeMaps Go.WideShapes
theorem Tryz.infoTable:(Tryz.prog.info? 122).map (fun i=>(i.zero,i.size,i.bytes))=some (some (.agg #[.int .i64 0,.slice none 0 0]),2,32):=by kernel_rfl
def fV (L:List TV) (cs:List Value):List Value:=(L.zip cs).flatMap fun p=>[Value.int .i64 p.1.n,p.2]
structure iI (w:World) (n0:Nat) (Z:List Nat) (v:Value) (L:List TV):Prop where
 ex:∃ cs:List Value,cs.length=L.length/\w.ownsRow n0 122 2 v L.length (fV L cs)/\∀ (i:Nat) (t:TV) (c:Value),L[i]?=some t->cs[i]?=some c->jG w Z c t
 fr:∀ k,v.ownBlock=some k->k∉Z
theorem iI.row {w:World} {n0:Nat} {Z:List Nat} {v:Value} {L:List TV} (h:iI w n0 Z v L):∃ xs,w.ownsRow n0 122 2 v L.length xs:=by
 obtain ⟨cs,_,hr,_⟩:=h.ex;exact ⟨_,hr⟩
theorem iI.keep {w w':World} {n0:Nat} {Z S:List Nat} {v:Value} {L:List TV} (h:iI w n0 Z v L) (u:af S w w') (hS:∀ k,k∈S->k∈Z\/w.heap.size<=k):iI w' n0 Z v L:=by
 obtain ⟨cs,h1,h2,h3⟩:=h.ex;refine ⟨⟨cs,h1,ai h2 fun k hk=>u.block k (h2.lt k hk).2 fun hm=>?_,fun i t c ht hc=>(h3 i t c ht hc).keep u hS⟩,h.fr⟩
 rcases hS k hm with h4 | h4
 ·exact h.fr k hk h4
 ·have:=(h2.lt k hk).2;omega
theorem iI.keep0 {w w':World} {n0:Nat} {Z:List Nat} {v:Value} {L:List TV} (h:iI w n0 Z v L) (u:af [] w w'):iI w' n0 Z v L:=h.keep u (by simp)
theorem iI.apart {w:World} {n0:Nat} {Z Z':List Nat} {v:Value} {L:List TV} (h:iI w n0 Z v L) (hs:Sub Z w Z'):iI w n0 Z' v L:=by
 obtain ⟨cs,h1,h2,h3⟩:=h.ex
 exact ⟨⟨cs,h1,h2,fun i t c ht hc=>(h3 i t c ht hc).apart hs⟩,fun k hk hm=>by
  rcases hs k hm with h4 | h4
  ·exact h.fr k hk h4
  ·have:=(h2.lt k hk).2;omega⟩
theorem iI.base {w:World} {n0 n1:Nat} {Z:List Nat} {v:Value} {L:List TV} (h:iI w n0 Z v L) (hn:n1<=n0):iI w n1 Z v L:=by
 obtain ⟨cs,h1,h2,h3⟩:=h.ex;exact ⟨⟨cs,h1,df h2 hn,h3⟩,h.fr⟩
theorem iI.nil (w:World) (n0:Nat) (Z:List Nat):iI w n0 Z (.slice none 0 0) []:=⟨⟨[],rfl,World.ownsRow_nil _ _ _ _,fun i t c h=>by simp at h⟩,fun k hk=>by simp [Value.ownBlock] at hk⟩
theorem MH {L:List TV} {cs:List Value} (hl:cs.length=L.length) {i:Nat} {t:TV} {c:Value} (ht:L[i]?=some t) (hc:cs[i]?=some c):(fV L cs)[i*2]?=some (.int .i64 t.n)/\(fV L cs)[i*2+1]?=some c:=by
 induction L generalizing cs i with
 | nil=>simp at ht
 | cons a L ih =>
  cases cs with
  | nil=>simp at hl
  | cons d cs =>
   have Xn:cs.length=L.length:=by simpa using hl
   have e:fV (a::L) (d::cs)=Value.int .i64 a.n::d::fV L cs:=rfl
   cases i with
   | zero=>simp at ht hc;subst ht hc;rw [e];exact ⟨rfl,rfl⟩
   | succ i =>
    simp at ht hc
    obtain ⟨h1,h2⟩:=ih Xn ht hc;rw [e]
    have e1:(i+1)*2=i*2+1+1:=by omega
    have e2:(i+1)*2+1=i*2+1+1+1:=by omega
    rw [e1,List.getElem?_cons_succ,List.getElem?_cons_succ,List.getElem?_cons_succ,List.getElem?_cons_succ];exact ⟨h1,h2⟩
theorem zC {L:List TV} {cs:List Value} (hl:cs.length=L.length) (t:TV) (c:Value):fV (L++[t]) (cs++[c])=fV L cs++[Value.int .i64 t.n,c]:=by
 unfold fV
 rw [List.zip_append hl.symm,List.flatMap_append];rfl
theorem iI.at_ {w:World} {n0 n' cp g:Nat} {Z:List Nat} {L:List TV} (h:iI w n0 Z (.slice (some ⟨g,0,none⟩) n' cp) L) {i:Nat} {t:TV} (ht:L[i]?=some t) :
  ∃ c,w.cell? ⟨g,i*2,none⟩=some (.int .i64 t.n)/\w.cell? ⟨g,i*2+1,none⟩=some c/\jG w Z c t:=by
 obtain ⟨cs,h1,h2,h3⟩:=h.ex
 have fF:i<L.length:=by
  by_cases e:i<L.length
  ·exact e
  ·rw [List.getElem?_eq_none (by omega)] at ht;cases ht
 have hc:cs[i]?=some (cs[i]'(by omega)):=List.getElem?_eq_getElem (by omega);obtain ⟨e1,e2⟩:=MH h1 ht hc;exact ⟨_,au h2 e1,au h2 e2,h3 i t _ ht hc⟩
theorem iI.form {w:World} {n0:Nat} {Z:List Nat} {v:Value} {L:List TV} (h:iI w n0 Z v L):∃ (a:Option Addr) (c:Nat),v=.slice a L.length c/\(0<L.length->∃ g,a=some ⟨g,0,none⟩):=by
 obtain ⟨xs,hr⟩:=h.row;obtain ⟨a,c,hv,hh⟩:=aj hr;refine ⟨a,c,hv,fun hp=>?_⟩
 rcases hh with ⟨_,h0,_⟩ | hh
 ·omega
 ·exact hh
theorem Ha (n0:Nat) (Z:List Nat) (v:Value) (L:List TV) (c:Value) (t:TV) (w:World) (h:iI w n0 Z v L) (ht:jG w Z c t) (hl:L.length<=1099511627776) :
  Calls Tryz.prog 106 #[v,dI t c] w fun e w'=>e=.returned (.bool (decide (t∈L)))/\af [] w w':=by
 obtain ⟨fa,fc,rfl,MI⟩:=h.form;obtain ⟨ta,tc,Qj,_⟩:=aj ht.row;subst Qj;have HL:=Lib.hid h;have HT:=Lib.hid ht;unfold dI;generalize hW:t.ws.length=W at *;generalize hn:t.n=n at *;have aY:=nH w (.int .i64 n) (.slice ta W tc);have HN:=Lib.hid (And.intro hW hn);have jR:=Lib.hid ((af.refl [] w).alloc (.cells #[.int .i64 n,.slice ta W tc] 122 (0,0)));obtain ⟨b0,b1⟩:=aY;clear h ht hW hn
 go_enter Tryz.func106,Tryz.ntmps106
 go_wp2_with fail
 go_loopg [9] L.length (fun g s9 wr=>∃ i:Nat,L.length-i=g/\i<=L.length/\s9=.int .i64 i/\t∉L.take i/\af [] (w.alloc (.cells #[.int .i64 n,.slice ta W tc] 122 (0,0))) wr)
 case atStart=>exact ⟨0,by omega,by omega,rfl,by simp,af.refl _ _⟩
 case round =>
  obtain ⟨i,rfl,hi,rfl,bK,hU⟩:=hrel
  by_cases aW:i<L.length
  ·obtain ⟨u,hu⟩ : ∃ u,L[i]?=some u:=⟨_,List.getElem?_eq_getElem aW⟩
   obtain ⟨ga,rfl⟩:=MI (by omega);have HUr:=Lib.hid (jR.out.trans hU);obtain ⟨cu,x0,x1,uQ⟩:=(HL.out.keep0 HUr.out).at_ hu;obtain ⟨ua,uc,Qr,_⟩:=aj uQ.row;subst Qr;obtain ⟨y0,y1⟩:=dw (hU.alloc (.cells #[.int .i64 u.n,.slice ua u.ws.length uc] 122 (0,0))) ⟨b0,b1⟩;obtain ⟨z0,z1⟩:=nH wr (.int .i64 u.n) (.slice ua u.ws.length uc)
   have fF:(i:Int)<(L.length:Int):=by omega
   have BN:=Lib.hid (mJ Z (.slice ta W tc) (.slice ua u.ws.length uc) t u (wr.alloc (.cells #[.int .i64 u.n,.slice ua u.ws.length uc] 122 (0,0))) ((HT.out.keep0 HUr.out).keep0 ((af.refl [] wr).alloc _)) (uQ.keep0 ((af.refl [] wr).alloc _)));have FP:=Lib.hid (And.intro bK hU);have HUU:=Lib.hid hu;unfold dI at BN;rw [HN.out.2] at BN;generalize u.ws.length=UW at *;generalize u.n=un at *;clear uQ bK hU hu b0 b1;go_wp2_with fail;refine BN.out.mono ?_;rintro e w3 ⟨rfl,fG⟩;have o8:=Lib.hid ((FP.out.2.alloc (.cells #[.int .i64 un,.slice ua UW uc] 122 (0,0))).trans fG);clear fG BN x0 x1 y0 y1 z0 z1
   by_cases e:t=u
   ·have HD:Hid (t∈L):=by rw [e];exact List.mem_of_getElem? HUU.out
    rw [decide_eq_true e];clear e;go_wp2_with fail;go_ret;exact ⟨by rw [decide_eq_true HD.out];rfl,jR.out.trans o8.out⟩
   ·have HD:Hid (t∉L.take (i+1)):=by
     show t∉_
     rw [List.take_add_one,HUU.out]
     simp only [Option.toList_some,List.mem_append,List.mem_singleton,not_or]
     exact ⟨FP.out.1,e⟩
    rw [decide_eq_false e];clear e;go_wp2_with fail
    go_roundg (L.length-(i+1))
    case measure=>omega
    case rel=>exact ⟨i+1,rfl,by omega,by simp,HD.out,o8.out⟩
  ·obtain rfl:i=L.length:=by omega
   have fF:¬ ((L.length:Int)<(L.length:Int)):=by omega
   have HD:Hid (decide (t∈L)=false/\af [] w wr):=⟨decide_eq_false (by rw [List.take_length] at bK;exact bK),jR.out.trans hU⟩;clear bK hU;go_wp2_with fail;go_ret;exact ⟨by rw [HD.out.1];rfl,HD.out.2⟩
def dX (l:List TV) (t:TV):List TV:=if t∈l then l else l++[t]
def bz (L:List TV):List TV:=L.foldl dX []
def eX (L:List TV) (v:Nat):List TV:=L.filter fun t=>oW t v
def bU (L:List TV) (v:Nat):List TV:=L.foldl (fun l t=>dX (dX l (cO t v false)) (cO t v true)) []
theorem xw (l:List TV) (t:TV):(dX l t).length<=l.length+1:=by unfold dX;split <;> simp
theorem iw (L:List TV):(bz L).length<=L.length:=by
 have key:∀ (L l:List TV),(L.foldl dX l).length<=l.length+L.length:=by
  intro L
  induction L with
  | nil=>intro l;simp
  | cons a L ih=>intro l;have:=ih (dX l a);have:=xw l a;simp only [List.foldl_cons,List.length_cons];omega
 have:=key L [];unfold bz
 simpa using this
theorem iI.push {w w5:World} {n0 g5 cap:Nat} {Z:List Nat} {v c:Value} {L:List TV} {t:TV} {X:Obj} (h:iI w n0 Z v L) (ht:jG w Z c t) (_hn:n0<=w.heap.size) (hZ:∀ k,k∈Z->k<n0)
  (dh:(w.alloc X).grownBy w5 v.ownBlock) {xs:List Value} (aC:w.ownsRow n0 122 2 v L.length xs) (aK:w5.ownsRow n0 122 2 (.slice (some ⟨g5,0,none⟩) (L.length+1) cap) (L.length+1) (xs++[.int .i64 t.n,c])) :
  iI w5 n0 Z (.slice (some ⟨g5,0,none⟩) (L.length+1) cap) (L++[t])/\(∀ S,(∀ k,v.ownBlock=some k->k∈S\/w.heap.size<=k)->af S w w5):=by
 obtain ⟨cs,h1,h2,h3⟩:=h.ex
 obtain rfl:xs=fV L cs:=by
  obtain ⟨e1,c1⟩:=aC;obtain ⟨e2,c2⟩:=h2
  rcases c1 with ⟨rfl,h0⟩ | ⟨g,oD,Yb,rfl,hg,hh,_,_,_,k1⟩
  ·rcases c2 with ⟨_,_⟩ | ⟨g,jc,Qs,e,_⟩
   ·have a1:xs.length=0:=by rw [e1,h0]
    have a2:(fV L cs).length=0:=by rw [e2,h0]
    rw [List.length_eq_zero_iff.1 a1,List.length_eq_zero_iff.1 a2]
   ·simp at e
  ·rcases c2 with ⟨e,_⟩ | ⟨g',jc,Qs,e,hg',Xq,_,_,_,k2⟩
   ·simp at e
   ·simp at e
    obtain ⟨rfl,_⟩:=e
    rw [hh] at Xq;cases Xq
    rw [<- k1,<- k2]
 have hu:∀ S,(∀ k,v.ownBlock=some k->k∈S\/w.heap.size<=k)->af S w w5:=fun S hS=>((af.refl S w).alloc X).grown dh hS
 refine ⟨⟨⟨cs++[c],by simp [h1],?_,fun i u d jy hd=>?_⟩,fun k hk hm=>?_⟩,hu⟩
 ·rw [zC h1,List.length_append,List.length_singleton];exact aK
 ·have hS:=hu (v.ownBlock.toList) (fun k hk=>.inl (by simp [hk]))
  have keep:∀ {u:TV} {d:Value},jG w Z d u->jG w5 Z d u:=fun {u d} hd=>⟨hd.ok,ai hd.row fun k hk=>hS.block k (hd.row.lt k hk).2 fun hm=>by
   simp at hm
   obtain ⟨_,(⟨e,_⟩ | ⟨g,oD,Yb,e,hg,hh,_⟩)⟩:=h2
   ·rw [e] at hm;simp [Value.ownBlock] at hm
   ·rw [e] at hm
    simp [Value.ownBlock] at hm
    subst hm;obtain ⟨_,(⟨e2,_⟩ | ⟨g2,jc,Qs,e2,Lp,Lr,_⟩)⟩:=hd.row
    ·rw [e2] at hk;simp [Value.ownBlock] at hk
    ·rw [e2] at hk
     simp [Value.ownBlock] at hk
     subst hk;rw [hh] at Lr
     injection Lr with Lr
     injection Lr with _ Lr _
     exact absurd Lr (by decide),hd.fr⟩
  by_cases hi:i<L.length
  ·rw [List.getElem?_append_left hi] at jy
   rw [List.getElem?_append_left (by omega)] at hd;exact keep (h3 i u d jy hd)
  ·rw [List.getElem?_append_right (by omega)] at jy
   rw [List.getElem?_append_right (by omega),h1] at hd
   cases e:i-L.length with
   | zero=>rw [e] at jy hd;simp at jy hd;subst jy hd;exact keep ht
   | succ j=>rw [e] at jy;simp at jy
 ·have h4:=(aK.lt k hk).1
  have h5:=hZ k hm;omega
theorem BO {l:List TV} {t:TV} (h:t∈l):dX l t=l:=by unfold dX;rw [if_pos h]
theorem He {l:List TV} {t:TV} (h:t∉l):dX l t=l++[t]:=by unfold dX;rw [if_neg h]
theorem Hg (L:List TV) (t:TV):bz (L++[t])=dX (bz L) t:=by unfold bz;rw [List.foldl_append];rfl
theorem Jq (L:List TV) (t:TV) (v:Nat):eX (L++[t]) v=eX L v++(if oW t v then [t] else []):=by
 unfold eX;rw [List.filter_append];congr 1
 by_cases h:oW t v=true
 ·simp [h]
 ·simp [h]
structure TLQ (Z:List Nat) (L:List TV) (w:World) (e:Ending) (w':World):Prop where
 ex:∃ v:Value,e=.returned v/\iI w' w.heap.size Z v L/\af [] w w'
theorem zD (n0:Nat) (Z:List Nat) (v:Value) (L:List TV) (w:World) (h:iI w n0 Z v L) (hZ:∀ k,k∈Z->k<w.heap.size) (hl:L.length<=1073741824) :
  Calls Tryz.prog 150 #[v] w fun e w'=>TLQ Z (bz L) w e w':=by
 obtain ⟨ti,eU,fE,dR,fU⟩:=info_parts Tryz.infoTable;have HI:=Lib.hid (And.intro eU (And.intro fE (And.intro dR fU)));obtain ⟨fa,fc,rfl,MI⟩:=h.form;have HL:=Lib.hid h;have HZ:=Lib.hid hZ;clear h hZ eU fE dR fU
 go_enter Tryz.func150,Tryz.ntmps150
 go_wp2_with fail
 go_loopg [3,8] L.length (fun g s3 s8 wr=>∃ i:Nat,L.length-i=g/\i<=L.length/\s8=.int .i64 i/\iI wr w.heap.size Z s3 (bz (L.take i))/\af [] w wr)
 case atStart=>exact ⟨0,by omega,by omega,rfl,by simpa [bz] using iI.nil w w.heap.size Z,af.refl _ _⟩
 case round =>
  obtain ⟨i,rfl,hi,rfl,hT,hU⟩:=hrel
  by_cases aW:i<L.length
  ·obtain ⟨u,hu⟩ : ∃ u,L[i]?=some u:=⟨_,List.getElem?_eq_getElem aW⟩
   obtain ⟨ga,rfl⟩:=MI (by omega);obtain ⟨cu,x0,x1,uQ⟩:=(HL.out.keep0 hU).at_ hu;obtain ⟨ua,uc,Qr,_⟩:=aj uQ.row;subst Qr;obtain ⟨oa,oc,sH,_⟩:=hT.form;subst sH
   have fF:(i:Int)<(L.length:Int):=by omega
   have MJ:(bz (L.take i)).length<=1073741824:=by
    have:=iw (L.take i)
    rw [List.length_take] at this;omega
   have HS:Hid (bz (L.take (i+1))=dX (bz (L.take i)) u):=by
    show _=_
    rw [List.take_add_one,hu];exact Hg _ _
   generalize bz (L.take i)=UL at *;obtain ⟨z0,z1⟩:=nH wr (.int .i64 u.n) (.slice ua u.ws.length uc);have xx:=(af.refl [] wr).alloc (.cells #[.int .i64 u.n,.slice ua u.ws.length uc] 122 (0,0));have Hl:=Lib.hid (Ha w.heap.size Z (.slice oa UL.length oc) UL (.slice ua u.ws.length uc) u (wr.alloc (.cells #[.int .i64 u.n,.slice ua u.ws.length uc] 122 (0,0))) (hT.keep0 xx) (uQ.keep0 xx) (by omega));have SG:=Lib.hid (And.intro (hT.keep0 xx) (And.intro (uQ.keep0 xx) (hU.trans xx)));have HB:Hid ((wr.alloc (.cells #[.int .i64 u.n,.slice ua u.ws.length uc] 122 (0,0))).cell? ⟨wr.heap.size,0,none⟩=some (.int .i64 u.n)/\(wr.alloc (.cells #[.int .i64 u.n,.slice ua u.ws.length uc] 122 (0,0))).cell? ⟨wr.heap.size,1,none⟩=some (.slice ua u.ws.length uc)):=⟨z0,z1⟩;unfold dI at Hl;generalize MK:u.ws.length=UW at *;generalize uZ:u.n=un at *;have OV:=Lib.hid (And.intro MK uZ);clear uQ hT hU hu xx MK uZ;go_wp2_with fail;refine Hl.out.mono ?_;rintro e w3 ⟨rfl,fG⟩;obtain ⟨y0,y1⟩:=dw fG HB.out;have rW:=Lib.hid (And.intro (SG.out.1.keep0 fG) (And.intro (SG.out.2.1.keep0 fG) (SG.out.2.2.trans fG)));clear fG Hl SG HB x0 x1 z0 z1
   by_cases e:u∈UL
   ·rw [decide_eq_true e]
    have HN:Hid (bz (L.take (i+1))=UL):=by rw [HS.out,BO e];exact rfl
    clear e HS;go_wp2_with fail
    go_roundg (L.length-(i+1))
    case measure=>omega
    case rel=>exact ⟨i+1,rfl,by omega,by simp,by rw [HN.out];exact rW.out.1,rW.out.2.2⟩
   ·rw [decide_eq_false e]
    have HN:Hid (bz (L.take (i+1))=UL++[u]):=by rw [HS.out,He e];exact rfl
    obtain ⟨xs,aC⟩:=rW.out.1.row;have bF:=Lib.hid aC
    have mg:Hid (∀ z,z∈[Value.int .i64 un,Value.slice ua UW uc]->z.oneCell'=true):=by
     intro z hz;simp at hz;rcases hz with rfl | rfl <;> rfl
    have yK:=rW.out.2.2.size
    have pW:w.heap.size<=(w3.alloc (.cells #[.int .i64 un,.slice ua UW uc] 122 (0,0))).heap.size:=by rw [World.size_alloc];omega
    clear e HS aC
    go_wp2_with (at_builtin;go_must (refine wpList_append_lies _ rfl (.tmp 16) (.tmp 18) 22 rfl w.heap.size 122 ti _ 2 32 Tryz.underlying22 HI.out.1 HI.out.2.1 HI.out.2.2.1 HI.out.2.2.2 (by rfl) (by decide) _ UL.length xs rfl (bF.out.alloc _) ⟨w3.heap.size,0,none⟩ 1 1 [.int .i64 un,.slice ua UW uc] rfl rfl ?c1 mg.out (by omega) (by unfold maxLen;omega) (by omega) pW _ rfl ?_))
    case c1=>exact World.news_of_block (heap_alloc_new w3 (.cells #[.int .i64 un,.slice ua UW uc] 122 (0,0)))
    intro g5 cap w5 aK dh bI kF
    have HE:Hid (iI w5 w.heap.size Z (.slice (some ⟨g5,0,none⟩) (UL.length+1) cap) (UL++[u])/\af [] w w5):=by
     have hp:=rW.out.1.push rW.out.2.1 (by omega) HZ.out dh bF.out (by rw [OV.out.2];exact aK);refine ⟨hp.1,rW.out.2.2.then (hp.2 (Value.slice oa UL.length oc).ownBlock.toList fun k hk=>.inl (by rw [hk];simp)) fun k hk=>.inr ?_⟩
     have dB:(Value.slice oa UL.length oc).ownBlock=some k:=by simpa using hk
     exact (bF.out.lt k dB).1
    clear aK dh bI kF;go_wp2_with fail
    go_roundg (L.length-(i+1))
    case measure=>omega
    case rel=>exact ⟨i+1,rfl,by omega,by simp,by rw [HN.out];exact HE.out.1,HE.out.2⟩
  ·obtain rfl:i=L.length:=by omega
   have fF:¬ ((L.length:Int)<(L.length:Int)):=by omega
   have HE:Hid (iI wr w.heap.size Z _ (bz L)/\af [] w wr):=⟨by rw [List.take_length] at hT;exact hT,hU⟩;clear hT hU;go_wp2_with fail;go_ret;exact ⟨_,rfl,HE.out⟩
theorem ML (n0:Nat) (Z:List Nat) (v:Value) (L:List TV) (x:Nat) (w:World) (h:iI w n0 Z v L) (hZ:∀ k,k∈Z->k<w.heap.size) (hl:L.length<=1073741824) (hx:∀ t,t∈L->x<t.n) (hx6:x<64) :
  Calls Tryz.prog 208 #[v,.int .i64 x] w fun e w'=>TLQ Z (eX L x) w e w':=by
 obtain ⟨ti,eU,fE,dR,fU⟩:=info_parts Tryz.infoTable;have HI:=Lib.hid (And.intro eU (And.intro fE (And.intro dR fU)));obtain ⟨fa,fc,rfl,MI⟩:=h.form;have HL:=Lib.hid h;have HZ:=Lib.hid hZ;have HX:=Lib.hid hx;clear hx;clear h hZ eU fE dR fU
 go_enter Tryz.func208,Tryz.ntmps208
 go_wp2_with fail
 go_loopg [5,10] L.length (fun g s3 s8 wr=>∃ i:Nat,L.length-i=g/\i<=L.length/\s8=.int .i64 i/\iI wr w.heap.size Z s3 (eX (L.take i) x)/\af [] w wr)
 case atStart=>exact ⟨0,by omega,by omega,rfl,by simpa [eX] using iI.nil w w.heap.size Z,af.refl _ _⟩
 case round =>
  obtain ⟨i,rfl,hi,rfl,hT,hU⟩:=hrel
  by_cases aW:i<L.length
  ·obtain ⟨u,hu⟩ : ∃ u,L[i]?=some u:=⟨_,List.getElem?_eq_getElem aW⟩
   obtain ⟨ga,rfl⟩:=MI (by omega);obtain ⟨cu,x0,x1,uQ⟩:=(HL.out.keep0 hU).at_ hu;obtain ⟨ua,uc,Qr,_⟩:=aj uQ.row;subst Qr;obtain ⟨oa,oc,sH,_⟩:=hT.form;subst sH
   have fF:(i:Int)<(L.length:Int):=by omega
   have MJ:(eX (L.take i) x).length<=1073741824:=by
    have:=List.length_filter_le (fun t=>oW t x) (L.take i);rw [List.length_take] at this
    show (List.filter _ _).length<=_
    omega
   have HS:Hid (eX (L.take (i+1)) x=eX (L.take i) x++(if oW u x then [u] else [])):=by
    show _=_
    rw [List.take_add_one,hu];exact Jq _ _ _
   generalize eX (L.take i) x=UL at *;obtain ⟨z0,z1⟩:=nH wr (.int .i64 u.n) (.slice ua u.ws.length uc);have xx:=(af.refl [] wr).alloc (.cells #[.int .i64 u.n,.slice ua u.ws.length uc] 122 (0,0));have Hl:=Lib.hid (xh Z (.slice ua u.ws.length uc) u x (wr.alloc (.cells #[.int .i64 u.n,.slice ua u.ws.length uc] 122 (0,0))) (uQ.keep0 xx) (fun k hk=>Nat.lt_of_lt_of_le (HZ.out k hk) (hU.trans xx).size) (HX.out u (List.mem_of_getElem? hu)) hx6);have SG:=Lib.hid (And.intro (hT.keep0 xx) (And.intro (uQ.keep0 xx) (hU.trans xx)));have HB:Hid ((wr.alloc (.cells #[.int .i64 u.n,.slice ua u.ws.length uc] 122 (0,0))).cell? ⟨wr.heap.size,0,none⟩=some (.int .i64 u.n)/\(wr.alloc (.cells #[.int .i64 u.n,.slice ua u.ws.length uc] 122 (0,0))).cell? ⟨wr.heap.size,1,none⟩=some (.slice ua u.ws.length uc)):=⟨z0,z1⟩;unfold dI at Hl;generalize MK:u.ws.length=UW at *;generalize uZ:u.n=un at *;have OV:=Lib.hid (And.intro MK uZ);clear uQ hT hU hu xx MK uZ;go_wp2_with fail;refine Hl.out.mono ?_;rintro e w3 ⟨rfl,fG⟩;obtain ⟨y0,y1⟩:=dw fG HB.out;have rW:=Lib.hid (And.intro (SG.out.1.keep0 fG) (And.intro (SG.out.2.1.keep0 fG) (SG.out.2.2.trans fG)));clear fG Hl SG HB x0 x1 z0 z1
   cases e:oW u x with
   | false =>
    have HN:Hid (eX (L.take (i+1)) x=UL):=by rw [HS.out,e];exact List.append_nil _
    clear e HS;go_wp2_with fail
    go_roundg (L.length-(i+1))
    case measure=>omega
    case rel=>exact ⟨i+1,rfl,by omega,by simp,by rw [HN.out];exact rW.out.1,rW.out.2.2⟩
   | true =>
    have HN:Hid (eX (L.take (i+1)) x=UL++[u]):=by rw [HS.out,e];exact rfl
    obtain ⟨xs,aC⟩:=rW.out.1.row;have bF:=Lib.hid aC
    have mg:Hid (∀ z,z∈[Value.int .i64 un,Value.slice ua UW uc]->z.oneCell'=true):=by
     intro z hz;simp at hz;rcases hz with rfl | rfl <;> rfl
    have yK:=rW.out.2.2.size
    have pW:w.heap.size<=(w3.alloc (.cells #[.int .i64 un,.slice ua UW uc] 122 (0,0))).heap.size:=by rw [World.size_alloc];omega
    clear e HS aC
    go_wp2_with (at_builtin;go_must (refine wpList_append_lies _ rfl (.tmp 17) (.tmp 19) 22 rfl w.heap.size 122 ti _ 2 32 Tryz.underlying22 HI.out.1 HI.out.2.1 HI.out.2.2.1 HI.out.2.2.2 (by rfl) (by decide) _ UL.length xs rfl (bF.out.alloc _) ⟨w3.heap.size,0,none⟩ 1 1 [.int .i64 un,.slice ua UW uc] rfl rfl ?c1 mg.out (by omega) (by unfold maxLen;omega) (by omega) pW _ rfl ?_))
    case c1=>exact World.news_of_block (heap_alloc_new w3 (.cells #[.int .i64 un,.slice ua UW uc] 122 (0,0)))
    intro g5 cap w5 aK dh bI kF
    have HE:Hid (iI w5 w.heap.size Z (.slice (some ⟨g5,0,none⟩) (UL.length+1) cap) (UL++[u])/\af [] w w5):=by
     have hp:=rW.out.1.push rW.out.2.1 (by omega) HZ.out dh bF.out (by rw [OV.out.2];exact aK);refine ⟨hp.1,rW.out.2.2.then (hp.2 (Value.slice oa UL.length oc).ownBlock.toList fun k hk=>.inl (by rw [hk];simp)) fun k hk=>.inr ?_⟩
     have dB:(Value.slice oa UL.length oc).ownBlock=some k:=by simpa using hk
     exact (bF.out.lt k dB).1
    clear aK dh bI kF;go_wp2_with fail
    go_roundg (L.length-(i+1))
    case measure=>omega
    case rel=>exact ⟨i+1,rfl,by omega,by simp,by rw [HN.out];exact HE.out.1,HE.out.2⟩
  ·obtain rfl:i=L.length:=by omega
   have fF:¬ ((L.length:Int)<(L.length:Int)):=by omega
   have HE:Hid (iI wr w.heap.size Z _ (eX L x)/\af [] w wr):=⟨by rw [List.take_length] at hT;exact hT,hU⟩;clear hT hU;go_wp2_with fail;go_ret;exact ⟨_,rfl,HE.out⟩
structure abV (u:TV) (x:Nat) (b:Bool) (n:Nat) (w:World) (e:Ending) (w':World):Prop where
 ex:∃ (a:Option Addr) (m c:Nat),e=.returned (.agg #[.int .i64 n,.slice a m c])/\rV w w' (.slice a m c) (cO u x b)/\af [] w w'
theorem abV.of {u:TV} {x n:Nat} {b:Bool} {w w':World} {e:Ending} (h:Jo (cO u x b) w e w') (hn:u.n=n):abV u x b n w e w':=by
 obtain ⟨c,rfl,hT,hu⟩:=h.ex;obtain ⟨a,m,hc,_⟩:=aj hT.row;subst hc;exact ⟨a,_,m,by unfold dI;rw [show (cO u x b).n=n from hn],hT,hu⟩
def rX (w:World) (b:Nat):Prop:=w.cell? ⟨b,0,none⟩=some (.int .i64 0)/\w.cell? ⟨b,1,none⟩=some (.slice none 0 0)/\w.frozen? ⟨b,0,none⟩=false/\w.frozen? ⟨b,1,none⟩=false/\b<w.heap.size
theorem rX.lt {w:World} {b:Nat} (h:rX w b):b<w.heap.size:=h.2.2.2.2
theorem jW {V w':World} {b:Nat} (u:af [] (V.alloc (.cells #[.int .i64 0,.slice none 0 0] 122 (0,0))) w') (hb:V.heap.size=b):rX w' b:=by
 subst hb;have e:=(u.block _ (ah (heap_alloc_new V _)) (by simp)).trans (heap_alloc_new V (.cells #[.int .i64 0,.slice none 0 0] 122 (0,0)));exact ⟨ae e rfl,ae e rfl,ax 0 e,ax 1 e,ah e⟩
theorem FQ {w w':World} {b:Nat} (u:af [] w w') (h:rX w b):rX w' b:=by
 have hb:b<w.heap.size:=World.block_lt_of_cell? _ _ h.1;exact ⟨(u.cell (a:=⟨b,0,none⟩) hb (by simp)).trans h.1,(u.cell (a:=⟨b,1,none⟩) hb (by simp)).trans h.2.1,(u.frozen (a:=⟨b,0,none⟩) hb (by simp)).trans h.2.2.1,(u.frozen (a:=⟨b,1,none⟩) hb (by simp)).trans h.2.2.2.1,Nat.lt_of_lt_of_le hb u.size⟩
theorem Jr (L:List TV) (t:TV) (x:Nat):bU (L++[t]) x=dX (dX (bU L x) (cO t x false)) (cO t x true):=by unfold bU;rw [List.foldl_append];rfl
theorem vN (L:List TV) (x:Nat):(bU L x).length<=2*L.length:=by
 have key:∀ (L l:List TV),(L.foldl (fun l t=>dX (dX l (cO t x false)) (cO t x true)) l).length<=l.length+2*L.length:=by
  intro L
  induction L with
  | nil=>intro l;simp
  | cons a L ih =>
   intro l
   have:=ih (dX (dX l (cO a x false)) (cO a x true));have h1:=xw (dX l (cO a x false)) (cO a x true);have h2:=xw l (cO a x false)
   simp only [List.foldl_cons,List.length_cons];omega
 have:=key L [];unfold bU
 simpa using this
structure Um (u:TV) (x n:Nat) (w:World) (s8 s9:Value) (wc:World):Prop where
 ex:∃ (A B:Nat) (fa:Option Addr) (fm fc:Nat) (ta:Option Addr) (tm tc:Nat),s8=.pointer (some ⟨A,0,none⟩)/\s9=.pointer (some ⟨B,0,none⟩)/\w.heap.size<=A/\w.heap.size<=B /\
  wc.cell? ⟨A,0,none⟩=some (.int .i64 n)/\wc.cell? ⟨A,1,none⟩=some (.slice fa fm fc)/\wc.cell? ⟨B,0,none⟩=some (.int .i64 n)/\wc.cell? ⟨B,1,none⟩=some (.slice ta tm tc) /\
  rV w wc (.slice fa fm fc) (cO u x false)/\rV w wc (.slice ta tm tc) (cO u x true)/\af [] w wc
structure Hm (Z:List Nat) (L:List TV) (t:TV) (n:Nat) (w wr:World) (B:Nat) (ta:Option Addr) (tm tc:Nat) (s5:Value) (wx:World):Prop where
 ls:iI wx w.heap.size Z s5 L
 tn:rV wr wx (.slice ta tm tc) t
 b0:wx.cell? ⟨B,0,none⟩=some (.int .i64 n)
 b1:wx.cell? ⟨B,1,none⟩=some (.slice ta tm tc)
 up:af [] w wx
theorem Un (w:World):w.drew.heap.size=w.heap.size:=rfl
def Qu (n:Nat) (w wc:World) (A B:Nat) (fa:Option Addr) (fm fc:Nat) (ta:Option Addr) (tm tc:Nat):Prop :=
 af [A,B] w wc/\wc.cell? ⟨A,0,none⟩=some (.int .i64 n)/\wc.cell? ⟨A,1,none⟩=some (.slice fa fm fc)/\wc.cell? ⟨B,0,none⟩=some (.int .i64 n)/\wc.cell? ⟨B,1,none⟩=some (.slice ta tm tc)
theorem mM {w:World} {A:Nat} (h:rX w A) (x y:Value):((w.setCell ⟨A,0,none⟩ x).setCell ⟨A,1,none⟩ y).cell? ⟨A,0,none⟩=some x/\((w.setCell ⟨A,0,none⟩ x).setCell ⟨A,1,none⟩ y).cell? ⟨A,1,none⟩=some y:=by
 refine ⟨?_,?_⟩
 ·rw [World.cell?_setCell_other _ _ _ _ (by simp)]
  exact World.cell?_setCell_same _ _ _ h.1
 ·exact World.cell?_setCell_same _ _ _ ((World.cell?_setCell_other _ _ _ _ (by simp)).trans h.2.1)
theorem kT {w:World} {A B:Nat} (h:A≠B) (x y:Value) (i:Nat):((w.setCell ⟨A,0,none⟩ x).setCell ⟨A,1,none⟩ y).cell? ⟨B,i,none⟩=w.cell? ⟨B,i,none⟩:=by
 rw [World.cell?_setCell_other _ _ _ _ (by simp),World.cell?_setCell_other _ _ _ _ (by simp)]
theorem abW {n:Nat} {w:World} {A B:Nat} {fa:Option Addr} {fm fc:Nat} {ta:Option Addr} {tm tc:Nat} (hA:rX w A) (hB:rX w B) (hne:A≠B) :
  Qu n w ((((w.setCell ⟨A,0,none⟩ (.int .i64 n)).setCell ⟨A,1,none⟩ (.slice fa fm fc)).setCell ⟨B,0,none⟩ (.int .i64 n)).setCell ⟨B,1,none⟩ (.slice ta tm tc)) A B fa fm fc ta tm tc:=by
 refine ⟨(((((af.refl _ w).setCell (by simp) _).setCell (by simp) _).setCell (by simp) _).setCell (by simp) _),?_,?_,?_,?_⟩
 ·rw [kT (Ne.symm hne)];exact (mM hA _ _).1
 ·rw [kT (Ne.symm hne)];exact (mM hA _ _).2
 ·exact (mM ⟨(kT hne _ _ 0).trans hB.1,(kT hne _ _ 1).trans hB.2.1,by rw [World.frozen?_setCell,World.frozen?_setCell];exact hB.2.2.1,by rw [World.frozen?_setCell,World.frozen?_setCell];exact hB.2.2.2.1,by simpa using hB.2.2.2.2⟩ _ _).1
 ·exact (mM ⟨(kT hne _ _ 0).trans hB.1,(kT hne _ _ 1).trans hB.2.1,by rw [World.frozen?_setCell,World.frozen?_setCell];exact hB.2.2.1,by rw [World.frozen?_setCell,World.frozen?_setCell];exact hB.2.2.2.1,by simpa using hB.2.2.2.2⟩ _ _).2
theorem Ur {n:Nat} {w:World} {A:Nat} {fa:Option Addr} {fm fc:Nat} {ta:Option Addr} {tm tc:Nat} (hA:rX w A) :
  Qu n w (((w.setCell ⟨A,0,none⟩ (.int .i64 n)).setCell ⟨A,1,none⟩ (.slice fa fm fc)).alloc (.cells #[.int .i64 n,.slice ta tm tc] 122 (0,0))) A w.heap.size fa fm fc ta tm tc:=by
 have hl:=hA.2.2.2.2;have hz:=nH ((w.setCell ⟨A,0,none⟩ (.int .i64 n)).setCell ⟨A,1,none⟩ (.slice fa fm fc)) (.int .i64 n) (.slice ta tm tc);rw [World.size_setCell,World.size_setCell] at hz;refine ⟨(((af.refl _ w).setCell (by simp) _).setCell (by simp) _).alloc _,?_,?_,hz.1,hz.2⟩
 ·rw [World.cell?_alloc_lt _ _ _ (by simpa using hl)];exact (mM hA _ _).1
 ·rw [World.cell?_alloc_lt _ _ _ (by simpa using hl)];exact (mM hA _ _).2
theorem abX {n:Nat} {w:World} {B:Nat} {fa:Option Addr} {fm fc:Nat} {ta:Option Addr} {tm tc:Nat} (hB:rX w B) :
  Qu n w (((w.setCell ⟨B,0,none⟩ (.int .i64 n)).setCell ⟨B,1,none⟩ (.slice ta tm tc)).alloc (.cells #[.int .i64 n,.slice fa fm fc] 122 (0,0))) w.heap.size B fa fm fc ta tm tc:=by
 obtain ⟨h1,h2,h3,h4,h5⟩:=Ur (n:=n) (fa:=ta) (fm:=tm) (fc:=tc) (ta:=fa) (tm:=fm) (tc:=fc) hB;exact ⟨h1.mono fun x hx=>by simp only [List.mem_cons,List.not_mem_nil,or_false] at hx ⊢;exact hx.symm,h4,h5,h2,h3⟩
theorem Ut {n:Nat} {w:World} {fa:Option Addr} {fm fc:Nat} {ta:Option Addr} {tm tc:Nat} :
  Qu n w ((w.alloc (.cells #[.int .i64 n,.slice fa fm fc] 122 (0,0))).alloc (.cells #[.int .i64 n,.slice ta tm tc] 122 (0,0))) w.heap.size (w.heap.size+1) fa fm fc ta tm tc:=by
 have hz:=nH (w.alloc (.cells #[.int .i64 n,.slice fa fm fc] 122 (0,0))) (.int .i64 n) (.slice ta tm tc);have hy:=nH w (.int .i64 n) (.slice fa fm fc);rw [World.size_alloc] at hz;refine ⟨((af.refl _ w).alloc _).alloc _,?_,?_,hz.1,hz.2⟩
 ·rw [World.cell?_alloc_lt _ _ _ (by simp)];exact hy.1
 ·rw [World.cell?_alloc_lt _ _ _ (by simp)];exact hy.2
theorem Yc {n:Nat} {w:World} {fa:Option Addr} {fm fc:Nat} {ta:Option Addr} {tm tc:Nat} :
  Qu n w ((w.alloc (.cells #[.int .i64 n,.slice ta tm tc] 122 (0,0))).alloc (.cells #[.int .i64 n,.slice fa fm fc] 122 (0,0))) (w.heap.size+1) w.heap.size fa fm fc ta tm tc:=by
 obtain ⟨h1,h2,h3,h4,h5⟩:=Ut (n:=n) (w:=w) (fa:=ta) (fm:=tm) (fc:=tc) (ta:=fa) (tm:=fm) (tc:=fc);exact ⟨h1.mono fun x hx=>by simp only [List.mem_cons,List.not_mem_nil,or_false] at hx ⊢;exact hx.symm,h4,h5,h2,h3⟩
theorem Uu {u:TV} {x n:Nat} {w V1 w3 V2 w4 wc:World} {A B:Nat} {fa:Option Addr} {fm fc:Nat} {ta:Option Addr} {tm tc:Nat}
  (h1:rV V1 w3 (.slice fa fm fc) (cO u x false)) (h2:rV V2 w4 (.slice ta tm tc) (cO u x true)) (u2:af [] w3 w4) (u4:af [] w w4)
  (hq:Qu n w4 wc A B fa fm fc ta tm tc)
  (hs:w.heap.size<=V1.heap.size/\w.heap.size<=V2.heap.size/\(A<V1.heap.size\/w3.heap.size<=A)/\(B<V1.heap.size\/w3.heap.size<=B)/\(A<V2.heap.size\/w4.heap.size<=A)/\(B<V2.heap.size\/w4.heap.size<=B)/\w.heap.size<=A/\w.heap.size<=B) :
  Um u x n w (.pointer (some ⟨A,0,none⟩)) (.pointer (some ⟨B,0,none⟩)) wc:=by
 obtain ⟨hc,cA0,cA1,cB0,cB1⟩:=hq;obtain ⟨hZ,hZ2,hA1,hB1,hA2,hB2,hA,hB⟩:=hs;refine ⟨A,B,fa,fm,fc,ta,tm,tc,rfl,rfl,hA,hB,cA0,cA1,cB0,cB1,?_,?_,?_⟩
 ·refine ⟨h1.ok,df (ai h1.row fun k hk=>?_) hZ⟩
  ·have hl:=h1.row.lt k hk
   refine (hc.block k (Nat.lt_of_lt_of_le hl.2 u2.size) ?_).trans (u2.block k hl.2 (by simp))
   simp only [List.mem_cons,List.not_mem_nil,or_false,not_or]
   omega
 ·refine ⟨h2.ok,df (ai h2.row fun k hk=>?_) hZ2⟩
  ·have hl:=h2.row.lt k hk
   refine hc.block k hl.2 ?_
   simp only [List.mem_cons,List.not_mem_nil,or_false,not_or]
   omega
 ·exact u4.then hc fun k hk=>by
   simp only [List.mem_cons,List.not_mem_nil,or_false] at hk
   right;rcases hk with rfl | rfl <;> assumption
theorem MN (n0:Nat) (Z:List Nat) (v:Value) (L:List TV) (x:Nat) (w:World) (h:iI w n0 Z v L) (hZ:∀ k,k∈Z->k<w.heap.size) (hl:L.length<=536870912) (hx:∀ t,t∈L->x<t.n) (_hx6:x<64) :
  Calls Tryz.prog 209 #[v,.int .i64 x] w fun e w'=>TLQ Z (bU L x) w e w':=by
 obtain ⟨ti,eU,fE,dR,fU⟩:=info_parts Tryz.infoTable;have HI:=Lib.hid (And.intro eU (And.intro fE (And.intro dR fU)));obtain ⟨fa,fc,rfl,MI⟩:=h.form;have HL:=Lib.hid h;have HZ:=Lib.hid hZ;have HX:=Lib.hid hx;clear h hZ eU fE dR fU hx
 go_enter Tryz.func209,Tryz.ntmps209
 go_wp2_with fail
 go_loopg [5,12] L.length (fun g s3 s8 wr=>∃ i:Nat,L.length-i=g/\i<=L.length/\s8=.int .i64 i/\iI wr w.heap.size Z s3 (bU (L.take i) x)/\af [] w wr)
 case atStart=>exact ⟨0,by omega,by omega,rfl,by simpa [bU] using iI.nil w w.heap.size Z,af.refl _ _⟩
 case round =>
  obtain ⟨i,rfl,hi,rfl,hT,hU⟩:=hrel
  by_cases aW:i<L.length
  ·obtain ⟨u,hu⟩ : ∃ u,L[i]?=some u:=⟨_,List.getElem?_eq_getElem aW⟩
   obtain ⟨ga,rfl⟩:=MI (by omega);obtain ⟨cu,x0,x1,uQ⟩:=(HL.out.keep0 hU).at_ hu;obtain ⟨ua,uc,Qr,_⟩:=aj uQ.row;subst Qr;obtain ⟨oa,oc,sH,_⟩:=hT.form;subst sH
   have fF:(i:Int)<(L.length:Int):=by omega
   have MJ:(bU (L.take i) x).length<=1073741824:=by
    have:=vN (L.take i) x
    rw [List.length_take] at this;omega
   have HS:Hid (bU (L.take (i+1)) x=dX (dX (bU (L.take i) x) (cO u x false)) (cO u x true)):=by
    show _=_
    rw [List.take_add_one,hu];exact Jr _ _ _
   generalize bU (L.take i) x=UL at *;have Yd:=Lib.hid (And.intro hT hU);obtain ⟨z0,z1⟩:=nH wr (.int .i64 u.n) (.slice ua u.ws.length uc)
   have HZR:Hid (∀ k,k∈Z->k<wr.heap.size):=fun k hk=>Nat.lt_of_lt_of_le (HZ.out k hk) hU.size
   have xx:=(af.refl [] wr).alloc (.cells #[.int .i64 u.n,.slice ua u.ws.length uc] 122 (0,0));have SG:=Lib.hid (And.intro (hT.keep0 xx) (And.intro (uQ.keep0 xx) (hU.trans xx)));have HXU:=Lib.hid (HX.out u (List.mem_of_getElem? hu));generalize MK:u.ws.length=UW at *;generalize uZ:u.n=un at *;have OV:=Lib.hid (And.intro MK uZ)
   have HC:Hid (∀ (W:World) (b:Bool),af [] (wr.alloc (.cells #[.int .i64 un,.slice ua UW uc] 122 (0,0))) W->Calls Tryz.prog 136 #[.agg #[.int .i64 un,.slice ua UW uc],.int .i64 x,.bool b] W fun e w'=>abV u x b un W e w'):=fun W b hW=>by
    have:=xg Z (.slice ua UW uc) u x b W (SG.out.2.1.keep0 hW) (by rw [uZ];exact HXU.out);unfold dI at this;rw [uZ] at this
    exact this.mono fun e w' h=>.of h uZ
   clear uQ hT hU hu xx MK uZ;go_upto_region 5 with fail
   go_cut [8,9,12] from 12 to 38 (fun s8 s9 s12 wc=>s12=.int .i64 i/\Um u x un wr s8 s9 wc)
   case first =>
    go_region_held3 (fun w'=>w'.cell? ⟨wr.heap.size,0,none⟩=some (.int .i64 un)/\w'.cell? ⟨wr.heap.size,1,none⟩=some (.slice ua UW uc)) (exact dw (by repeat' (first | exact I8.out | exact mG.out | exact af.refl _ _ | refine af.setCell ?_ (Or.inr (by (try have q1:=mG.out.size);(try have q2:=I8.out.size);simp only [World.size_alloc] at *;omega)) _ | refine af.alloc ?_ _ | refine af.drew ?_)) ⟨z0,z1⟩) (first | (go_at_call_of 136 (Value.bool false);refine (HC.out _ false (by first | exact (af.refl [] _).drew | exact ((af.refl [] _).drew).alloc _ | exact (((af.refl [] _).drew).alloc _).alloc _)).mono ?_;rintro e w3 hE;obtain ⟨fA,fM,fC,rfl,hTf,Lt⟩:=hE.ex;have mG:Hid (af [] (wr.alloc (.cells #[.int .i64 un,.slice ua UW uc] 122 (0,0))) w3):=(by first | exact ((af.refl [] _).drew).trans Lt | exact (((af.refl [] _).drew).alloc _).trans Lt | exact ((((af.refl [] _).drew).alloc _).alloc _).trans Lt);(try (have ZA:rX w3 (wr.heap.size+1):=by first | exact jW (af.jf Lt) (by show (wr.alloc _).heap.size=_;rw [World.size_alloc]) | exact jW Lt (by show (wr.alloc _).heap.size=_;rw [World.size_alloc]) | exact jW (((af.refl [] _).alloc _).trans (af.jf Lt)) (by show (wr.alloc _).heap.size=_;rw [World.size_alloc]) | exact jW (((af.refl [] _).alloc _).trans Lt) (by show (wr.alloc _).heap.size=_;rw [World.size_alloc])));(try (have ZB:rX w3 (wr.heap.size+1+1):=by first | exact jW (af.jf Lt) (by show ((wr.alloc _).alloc _).heap.size=_;rw [World.size_alloc,World.size_alloc]) | exact jW Lt (by show ((wr.alloc _).alloc _).heap.size=_;rw [World.size_alloc,World.size_alloc])));obtain ⟨v0,v1⟩:=dw mG.out ⟨z0,z1⟩;(try (have NA:¬ (wr.heap.size+1=w3.heap.size):=Nat.ne_of_lt (rX.lt (by assumption));have NA':=Ne.symm NA));(try (have NB:¬ (wr.heap.size+1+1=w3.heap.size):=Nat.ne_of_lt (rX.lt (by assumption));have NB':=Ne.symm NB));have HTF:=Lib.hid (And.intro hTf Lt);clear hE;(try clear hTf);(try clear Lt)) | (go_at_call_of 136 (Value.bool true);refine (HC.out _ true (by first | exact mG.out | exact mG.out.alloc _ | exact (mG.out.alloc _).alloc _)).mono ?_;rintro e w4 hE;obtain ⟨tA,tM,tC,rfl,hTt,Z5⟩:=hE.ex;have eF:Hid (af [] w3 w4):=(by first | exact Z5 | exact ((af.refl [] _).alloc _).trans Z5 | exact (((af.refl [] _).alloc _).alloc _).trans Z5);have I8:=Lib.hid (mG.out.trans eF.out);(try (have YA:rX w4 (wr.heap.size+1):=by exact FQ eF.out (by assumption)));(try (have YB:rX w4 (wr.heap.size+1+1):=by exact FQ eF.out (by assumption)));(try (have YC:rX w4 w3.heap.size:=by first | exact jW Z5 rfl | exact jW (((af.refl [] _).alloc _).trans Z5) rfl));(try (have YD:rX w4 (w3.heap.size+1):=by exact jW Z5 (by rw [World.size_alloc])));(try obtain ⟨ya0,ya1,ya2,ya3,ya4⟩:=YA);(try obtain ⟨yb0,yb1,yb2,yb3,yb4⟩:=YB);(try obtain ⟨yc0,yc1,yc2,yc3,yc4⟩:=YC);(try obtain ⟨yd0,yd1,yd2,yd3,yd4⟩:=YD);obtain ⟨u0,u1⟩:=dw eF.out ⟨v0,v1⟩;have HTT:=Lib.hid (And.intro hTt Z5);clear hE;(try clear hTt);(try clear Z5)))
    all_goals go_wp2_with fail
    all_goals go_meet
    all_goals (refine ⟨rfl,Uu HTF.out.1 HTT.out.1 eF.out (((af.refl [] wr).alloc _).trans I8.out) ?_ ?_⟩)
    all_goals (first | exact Ut | exact Yc | exact Ur ⟨by assumption,by assumption,by assumption,by assumption,by assumption⟩ | exact abX ⟨by assumption,by assumption,by assumption,by assumption,by assumption⟩ | exact abW ⟨by assumption,by assumption,by assumption,by assumption,by assumption⟩ ⟨by assumption,by assumption,by assumption,by assumption,by assumption⟩ (by first | assumption | simp) | skip)
    all_goals (have q1:=HTF.out.2.size;have q2:=HTT.out.2.size;have q3:=mG.out.size;simp only [World.size_alloc,Un] at q1 q2 q3 ⊢)
    all_goals (refine ⟨by omega,by omega,by omega,by omega,by omega,by omega,by omega,by omega⟩)
   case rest =>
    obtain ⟨rfl,hG⟩:=hcut;obtain ⟨A,B,fA,fM,fC,tA,tM,tC,rfl,rfl,hA,hB,a0,a1,b0,b1,hta,htb,hu⟩:=hG.ex;have HAB:=Lib.hid (And.intro hA hB);have hTc:=Yd.out.1.keep0 hu;have zF:=Lib.hid (And.intro hta (hta.tin HZR.out));have HCB:=Lib.hid (And.intro htb (htb.tin HZR.out));have Hl:=Lib.hid (Ha w.heap.size Z (.slice oa UL.length oc) UL (.slice fA fM fC) (cO u x false) wc hTc zF.out.2 (by omega));have MO:Hid ((cO u x false).n=un/\(cO u x true).n=un):=⟨OV.out.2,OV.out.2⟩;have vO:=Lib.hid MO.out.2;have HU:=Lib.hid (And.intro hu (Yd.out.2.trans hu));have SH:=Lib.hid hTc;unfold dI at Hl;rw [MO.out.1] at Hl;generalize cO u x false=ta at *;generalize cO u x true=tb at *;clear hA hB hta htb hu hTc hG HC z0 z1
    go_upto_if 25 with (go_at_call 106;refine Hl.out.mono ?_;rintro e w3 ⟨rfl,fG⟩;obtain ⟨a0,a1⟩:=dw fG ⟨a0,a1⟩;obtain ⟨b0,b1⟩:=dw fG ⟨b0,b1⟩;have o8:=Lib.hid fG;clear fG)
    go_cut [5,12] from 12 to 38 (fun s5 s12 wx=>s12=.int .i64 i/\Hm Z (dX UL ta) tb un w wr B tA tM tC s5 wx)
    case first =>
     by_cases e:ta∈UL
     ·rw [decide_eq_true e]
      have HE:Hid (Hm Z (dX UL ta) tb un w wr B tA tM tC (.slice oa UL.length oc) w3):=by
       rw [BO e];exact ⟨SH.out.keep0 o8.out,HCB.out.1.keep o8.out,b0,b1,HU.out.2.trans o8.out⟩
      clear e;go_wp2_with fail;go_meet;exact ⟨rfl,HE.out⟩
     ·rw [decide_eq_false e]
      obtain ⟨xs,aC⟩:=(SH.out.keep0 o8.out).row;obtain ⟨xs0,Z7⟩:=Yd.out.1.row;have bF:=Lib.hid (And.intro aC Z7)
      have mg:Hid (∀ z,z∈[Value.int .i64 un,Value.slice fA fM fC]->z.oneCell'=true):=by
       intro z hz;simp at hz;rcases hz with rfl | rfl <;> rfl
      have yK:=(HU.out.2.trans o8.out).size
      have pW:w.heap.size<=(w3.alloc (.cells #[.int .i64 un,.slice fA fM fC] 122 (0,0))).heap.size:=by rw [World.size_alloc];omega
      have HNE:Hid (ta∉UL):=e;have Lu:Hid (w3.cell? ⟨B,0,none⟩=some (.int .i64 un)/\w3.cell? ⟨B,1,none⟩=some (.slice tA tM tC)):=⟨b0,b1⟩;clear e HS aC Z7
      go_wp2_with (at_builtin;go_must (refine wpList_append_lies _ rfl (.tmp 26) (.tmp 28) 22 rfl w.heap.size 122 ti _ 2 32 Tryz.underlying22 HI.out.1 HI.out.2.1 HI.out.2.2.1 HI.out.2.2.2 (by rfl) (by decide) _ UL.length xs rfl (bF.out.1.alloc _) ⟨w3.heap.size,0,none⟩ 1 1 [.int .i64 un,.slice fA fM fC] rfl rfl ?c1 mg.out (by omega) (by unfold maxLen;omega) (by omega) pW _ rfl ?_))
      case c1=>exact World.news_of_block (heap_alloc_new w3 (.cells #[.int .i64 un,.slice fA fM fC] 122 (0,0)))
      intro g5 cap w5 aK dh bI kF
      have HE:Hid (Hm Z (dX UL ta) tb un w wr B tA tM tC (.slice (some ⟨g5,0,none⟩) (UL.length+1) cap) w5):=by
       rw [He HNE.out];have hp:=(SH.out.keep0 o8.out).push (zF.out.2.keep0 o8.out) (by omega) HZ.out dh bF.out.1 (by rw [MO.out.1];exact aK)
       have hS:=hp.2 (Value.slice oa UL.length oc).ownBlock.toList fun k hk=>.inl (by rw [hk];simp)
       have abZ:∀ k,wr.heap.size<=k->k∉(Value.slice oa UL.length oc).ownBlock.toList:=fun k hk hm=>by
        have Js:(Value.slice oa UL.length oc).ownBlock=some k:=by simpa using hm
        have:=(bF.out.2.lt k Js).2;omega
       have mO:B<w3.heap.size:=World.block_lt_of_cell? _ _ Lu.out.1;have ZZ:=HCB.out.1.keep o8.out;refine ⟨hp.1,⟨ZZ.ok,ai ZZ.row fun k hk=>hS.block k (ZZ.row.lt k hk).2 (abZ k (ZZ.row.lt k hk).1)⟩,(hS.cell (a:=⟨B,0,none⟩) mO (abZ B HAB.out.2)).trans Lu.out.1,(hS.cell (a:=⟨B,1,none⟩) mO (abZ B HAB.out.2)).trans Lu.out.2,?_⟩
       refine (HU.out.2.trans o8.out).then hS fun k hk=>.inr ?_
       have dB:(Value.slice oa UL.length oc).ownBlock=some k:=by simpa using hk
       exact (bF.out.2.lt k dB).1
      clear aK dh bI kF;go_wp2_with fail;go_meet;exact ⟨rfl,HE.out⟩
    case rest =>
     obtain ⟨rfl,hG⟩:=hcut;obtain ⟨hT4,htb,b0,b1,Ah⟩:=hG
     have Z8:(dX UL ta).length<=1073741824+1:=by have:=xw UL ta;omega
     clear SH zF HCB Hl o8 HU Yd a0 a1 SG MO;generalize dX UL ta=VL at *;obtain ⟨va,vc,rfl,_⟩:=hT4.form;have Hl:=Lib.hid (Ha w.heap.size Z (.slice va VL.length vc) VL (.slice tA tM tC) tb wc hT4 (htb.tin HZR.out) (by omega));have SH:=Lib.hid (And.intro hT4 (And.intro (htb.tin HZR.out) Ah));unfold dI at Hl;rw [vO.out] at Hl;clear hT4 htb Ah;go_wp2_with fail;refine Hl.out.mono ?_;rintro e w3 ⟨rfl,fG⟩;obtain ⟨b0,b1⟩:=dw fG ⟨b0,b1⟩;have rW:=Lib.hid (And.intro (SH.out.1.keep0 fG) (And.intro (SH.out.2.1.keep0 fG) (SH.out.2.2.trans fG)));clear fG Hl SH
     by_cases e:tb∈VL
     ·rw [decide_eq_true e]
      have HN:Hid (bU (L.take (i+1)) x=VL):=by rw [HS.out,BO e];exact rfl
      clear e HS;go_wp2_with fail
      go_roundg (L.length-(i+1))
      case measure=>omega
      case rel=>exact ⟨i+1,rfl,by omega,by simp,by rw [HN.out];exact rW.out.1,rW.out.2.2⟩
     ·rw [decide_eq_false e]
      have HN:Hid (bU (L.take (i+1)) x=VL++[tb]):=by rw [HS.out,He e];exact rfl
      obtain ⟨xs,aC⟩:=rW.out.1.row;have bF:=Lib.hid aC
      have mg:Hid (∀ z,z∈[Value.int .i64 un,Value.slice tA tM tC]->z.oneCell'=true):=by
       intro z hz;simp at hz;rcases hz with rfl | rfl <;> rfl
      have yK:=rW.out.2.2.size
      have pW:w.heap.size<=(w3.alloc (.cells #[.int .i64 un,.slice tA tM tC] 122 (0,0))).heap.size:=by rw [World.size_alloc];omega
      clear e HS aC
      go_wp2_with (at_builtin;go_must (refine wpList_append_lies _ rfl (.tmp 34) (.tmp 36) 22 rfl w.heap.size 122 ti _ 2 32 Tryz.underlying22 HI.out.1 HI.out.2.1 HI.out.2.2.1 HI.out.2.2.2 (by rfl) (by decide) _ VL.length xs rfl (bF.out.alloc _) ⟨w3.heap.size,0,none⟩ 1 1 [.int .i64 un,.slice tA tM tC] rfl rfl ?c1 mg.out (by omega) (by unfold maxLen;omega) (by omega) pW _ rfl ?_))
      case c1=>exact World.news_of_block (heap_alloc_new w3 (.cells #[.int .i64 un,.slice tA tM tC] 122 (0,0)))
      intro g5 cap w5 aK dh bI kF
      have HE:Hid (iI w5 w.heap.size Z (.slice (some ⟨g5,0,none⟩) (VL.length+1) cap) (VL++[tb])/\af [] w w5):=by
       have hp:=rW.out.1.push rW.out.2.1 (by omega) HZ.out dh bF.out (by rw [vO.out];exact aK);refine ⟨hp.1,rW.out.2.2.then (hp.2 (Value.slice va VL.length vc).ownBlock.toList fun k hk=>.inl (by rw [hk];simp)) fun k hk=>.inr ?_⟩
       have dB:(Value.slice va VL.length vc).ownBlock=some k:=by simpa using hk
       exact (bF.out.lt k dB).1
      clear aK dh bI kF;go_wp2_with fail
      go_roundg (L.length-(i+1))
      case measure=>omega
      case rel=>exact ⟨i+1,rfl,by omega,by simp,by rw [HN.out];exact HE.out.1,HE.out.2⟩
  ·obtain rfl:i=L.length:=by omega
   have fF:¬ ((L.length:Int)<(L.length:Int)):=by omega
   have HE:Hid (iI wr w.heap.size Z _ (bU L x)/\af [] w wr):=⟨by rw [List.take_length] at hT;exact hT,hU⟩;clear hT hU;go_wp2_with fail;go_ret;exact ⟨_,rfl,HE.out⟩
end Go.Proofs.YtfkopmhpppeheaaGreat
