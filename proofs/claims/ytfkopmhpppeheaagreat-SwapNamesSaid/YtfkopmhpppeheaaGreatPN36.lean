import Derived.Test.YtfkopmhpppeheaaGreatPN35
import Derived.Test.YtfkopmhpppeheaaGreatPN12
set_option maxRecDepth 100000
set_option maxHeartbeats 6400000
namespace Go.Proofs.YtfkopmhpppeheaaGreat
structure Home (K B:KV):Prop where
 ok:K.Ok
 un:K.Uni
 ok':B.Ok
 un':B.Uni
 vr:B.vars=K.vars
 pl:B.A.places=K.A.places
 od:B.order=K.order
 hd:∀ r,B.hold r=K.hold r
 den:∀ r,0<K.hold r->∀ z,B.den r z=K.den r z
theorem Home.refl {K:KV} (h:K.Ok) (u:K.Uni):Home K K:=⟨h,u,h,u,rfl,rfl,rfl,fun _=>rfl,fun _ _ _=>rfl⟩
theorem Home.sym {K B:KV} (h:Home K B):Home B K :=
 ⟨h.ok',h.un',h.ok,h.un,h.vr.symm,h.pl.symm,h.od.symm,fun r=>(h.hd r).symm,fun r hr z=>(h.den r (by rw [<- h.hd];exact hr) z).symm⟩
theorem Home.trans {A B C:KV} (h:Home A B) (k:Home B C):Home A C :=
 ⟨h.ok,h.un,k.ok',k.un',k.vr.trans h.vr,k.pl.trans h.pl,k.od.trans h.od,fun r=>(k.hd r).trans (h.hd r),fun r hr z=>(k.den r (by rw [h.hd];exact hr) z).trans (h.den r hr z)⟩
theorem Home.used {K B:KV} (h:Home K B):B.A.used=K.A.used:=Zr h.ok h.un h.ok' h.un' h.vr h.od h.hd h.den
theorem Home.lev {K B:KV} (h:Home K B) {v:Nat} (hv:v<K.vars):B.lev v=K.lev v :=
 (h.ok'.ord.pm.lU (i:=K.lev v) (v:=v) (by rw [h.od];exact h.ok.ord.pm.nI hv)).2
theorem Home.mix {K B:KV} (h:Home K B) (l:Nat) (a z:Nat->Bool):B.mix l a z=K.mix l a z:=by
 funext v
 simp only [KV.mix]
 have hv:=h.vr
 by_cases hvv:v<K.vars
 ·rw [h.lev hvv,hv]
 ·rw [if_neg (by omega),if_neg (by omega)]
theorem Home.has {K B:KV} (h:Home K B):Has K B:=fun r ht=>by
 by_cases h2:2<=r
 ·obtain ⟨f,a,hf,he⟩:=h.ok.uo h2 ht
  obtain ⟨s,hs,Td⟩:=B.lS h.ok' (K.dep r) a _ f (Nat.le_refl _) (h.ok'.kz (by rw [h.hd];exact hf));exact ⟨s,hs,fun z=>by rw [he,Td,h.den f hf,h.mix]⟩
 ·exact ⟨r,h.ok'.oq (by omega),fun z=>by rw [K.aN (by omega),B.aN (by omega)]⟩
theorem Home.dep {K B:KV} (h:Home K B) {r s:Nat} (rQ:2<=r) (dR:2<=s) (hr:K.A.tk r=true) (hs:B.A.tk s=true) (e:∀ z,K.den r z=B.den s z):B.dep s=K.dep r:=by
 have WO:K.den r=B.den s:=funext e;obtain ⟨v,hv,hd,hh,bK⟩:=h.ok.gI h.un rQ hr;obtain ⟨w,hw,wP,Lr,ac4⟩:=h.ok'.gI h.un' dR hs;rw [WO] at hh bK;have oV:=h.vr;have lv:=h.lev hv;have lw:=h.lev (v:=w) (by omega)
 have a1:¬ K.lev w<K.lev v:=fun aW=>bK w (by omega) aW Lr
 have a2:¬ B.lev v<B.lev w:=fun aW=>ac4 v (by omega) aW hh
 omega
theorem Nb.WR {K:KV} {l x y r:Nat} (nb:Nb K l x y) (h2:2<=r) (ht:K.A.tk r=true) (hd:K.dep r=l) (hc:¬ K.gZ x y r) (z:Nat->Bool) (b:Bool):K.den r (upd z y b)=K.den r z:=by
 obtain ⟨hx,hy,lx,ly,nZ⟩:=nb.facts;have hk:=nb.ok;obtain ⟨p,v,hp,aH,hv,gK,t1,t2,vT⟩:=hk.wf.cZ h2 ht;have hb:=hk.ord.below hk.wf h2 hp aH;have:v=x:=hk.ord.pm.inj gK hx (by omega);subst this
 have k1:K.vI p.lo≠(y:Int):=fun e=>hc ⟨h2,p,hp,aH,hv,.inl e⟩
 have k2:K.vI p.hi≠(y:Int):=fun e=>hc ⟨h2,p,hp,aH,hv,.inr e⟩
 have g1:=nb.kid t1 (by omega) k1;have g2:=nb.kid t2 (by omega) k2;rw [KV.dD hk.wf hk.ord h2 hp aH,KV.dD hk.wf hk.ord h2 hp aH,show p.var.toNat=v by omega,ig z _ nZ,(nb.aO g1 z _).2,(nb.aO g2 z _).2]
theorem rZ.left {K:KV} {l x y:Nat} {c:bY} (nb:Nb K l x y) (h:rZ K l x y c) (b:Bool):∃ q,q∈bY.qs c/\∀ z,kH K x q z=K.den c.r (upd z y b):=by
 obtain ⟨hx,hy,lx,ly,nZ⟩:=nb.facts;obtain ⟨p',_,_,_,_,_,F4⟩:=h.at_
 cases b with
 | false =>
  refine ⟨(c.a00,c.a10),by simp [bY.qs],fun z=>?_⟩
  rw [F4.den,bD,ig z false nZ,(nb.aO F4.d10 z false).2,(nb.aO F4.d00 z false).2];rfl
 | true =>
  refine ⟨(c.a01,c.a11),by simp [bY.qs],fun z=>?_⟩
  rw [F4.den,bD,ig z true nZ,(nb.aO F4.d11 z true).2,(nb.aO F4.d01 z true).2];rfl
theorem rZ.right {K:KV} {l x y:Nat} {c:bY} (nb:Nb K l x y) (h:rZ K l x y c) {q:Nat × Nat} (hq:q∈bY.qs c):∃ b,∀ z,kH K x q z=K.den c.r (upd z y b):=by
 obtain ⟨hx,hy,lx,ly,nZ⟩:=nb.facts;obtain ⟨p',_,_,_,_,_,F4⟩:=h.at_
 simp only [bY.qs,List.mem_cons,List.not_mem_nil,or_false] at hq
 rcases hq with rfl | rfl
 ·refine ⟨false,fun z=>?_⟩
  rw [F4.den,bD,ig z false nZ,(nb.aO F4.d10 z false).2,(nb.aO F4.d00 z false).2];rfl
 ·refine ⟨true,fun z=>?_⟩
  rw [F4.den,bD,ig z true nZ,(nb.aO F4.d11 z true).2,(nb.aO F4.d01 z true).2];rfl
theorem Home.pair {K B:KV} {l x y:Nat} {C C':List bY} {N N':List (Nat × Nat)} (h:Home K B) (nb:Nb K l x y) (XL:Nb B l x y) (CA:dU K l x y C) (F:lZ K x (C.flatMap bY.qs) N) (KN:dU B l x y C') (F':lZ B x (C'.flatMap bY.qs) N') {q:Nat × Nat} (hq:q∈N) :
  ∃ q',q'∈N'/\∀ z,kH B x q' z=kH K x q z:=by
 obtain ⟨hx,hy,lx,ly,nZ⟩:=nb.facts;obtain ⟨PH,xZ,bK⟩:=(F.iff q).1 hq;obtain ⟨d1,d2⟩:=CA.deep PH;obtain ⟨c,hc,hm⟩:=List.mem_flatMap.1 PH;have oz:=(CA.ok c hc).cr;have ct:=Nb.nO oz;obtain ⟨s,hs,Td⟩:=h.has c.r ct
 have Qd:K.dep c.r=l:=by
  obtain ⟨_,p,hp,_,hv,_⟩:=oz
  rw [nb.kW hp hv];exact lx
 have ZM:∀ b,¬ ∀ z,B.den s (upd z y b)=B.den s z:=fun b hn=>nb.O8 oz fun z b'=>by
  rw [Td,Td]
  have e1:∀ z,B.den s z=B.den s (upd z y b):=fun z=>(hn z).symm
  rw [e1 (upd z y b'),e1 z]
  congr 1
  funext u
  simp only [upd];split <;> rfl
 have s2:2<=s:=Classical.byContradiction fun h2=>ZM false fun z=>by rw [B.aN (by omega),B.aN (by omega)]
 have sJ:B.dep s=l:=by rw [h.dep oz.1 s2 ct hs Td];exact Qd
 have EC:B.gZ x y s:=Classical.byContradiction fun hn=>ZM false fun z=>XL.WR s2 hs sJ hn z false
 obtain ⟨c',hc',rfl⟩:=List.mem_map.1 (KN.all s EC);obtain ⟨b,hb⟩:=(CA.ok c hc).right nb hm;obtain ⟨q',YI,Nz⟩:=(KN.ok c' hc').left XL b
 have e:∀ z,kH B x q' z=kH K x q z:=fun z=>by rw [Nz,hb,Td]
 have ag1:q'∈C'.flatMap bY.qs:=List.mem_flatMap.2 ⟨c',hc',YI⟩;obtain ⟨g1,g2⟩:=KN.deep ag1;refine ⟨q',(F'.iff q').2 ⟨ag1,fun e2=>?_,fun h3=>?_⟩,e⟩
 ·refine xZ (KV.canon nb.ok.wf nb.ok.ord nb.un _ _ _ d1.1 d2.1 (Nat.le_refl _) fun z=>?_)
  have a1:=e (upd z x true);have a0:=e (upd z x false)
  simp only [kH,bD,if_true,Bool.false_eq_true,if_false] at a1 a0
  rw [(XL.aO g2 z true).1,(nb.aO d2 z true).1] at a1;rw [(XL.aO g1 z false).1,(nb.aO d1 z false).1] at a0;rw [<- a0,<- a1,e2]
 ·obtain ⟨t,pt,t2,lQ,htt,Ym,e1,e2⟩:=h3
  obtain ⟨t0,ht0,he0⟩:=h.sym.has t (ag.aP.2 ⟨pt,lQ,htt⟩)
  have WO:∀ z,K.den t0 z=if z x then K.den q.2 z else K.den q.1 z:=fun z=>by
   have:=e z;rw [kH,kH] at this;rw [<- this,<- he0,KV.dD h.ok'.wf h.ok'.ord t2 lQ htt,show pt.var.toNat=x by omega,e1,e2]
  by_cases h02:2<=t0
  ·exact bK (nb.pair d1 d2 xZ h02 ht0 WO)
  ·refine xZ (KV.canon nb.ok.wf nb.ok.ord nb.un _ _ _ d1.1 d2.1 (Nat.le_refl _) fun z=>?_)
   have e1:=WO (upd z x true);have e0:=WO (upd z x false);rw [bD] at e1 e0;rw [K.aN (by omega),(nb.aO d2 z true).1] at e1;rw [K.aN (by omega),(nb.aO d1 z false).1] at e0
   simp at e1 e0
   rw [<- e1,<- e0]
theorem Home.pairs {K B:KV} {l x y:Nat} {C C':List bY} {N N':List (Nat × Nat)} (h:Home K B) (nb:Nb K l x y) (XL:Nb B l x y) (CA:dU K l x y C) (F:lZ K x (C.flatMap bY.qs) N) (KN:dU B l x y C') (F':lZ B x (C'.flatMap bY.qs) N'):N.length<=N'.length:=by
 have deep:∀ q,q∈N->Deep K l q.1/\Deep K l q.2:=fun q hq=>CA.deep ((F.iff q).1 hq).1
 let g:Nat × Nat->Nat × Nat:=fun q=>if hq:q∈N then (h.pair nb XL CA F KN F' hq).choose else (0,0)
 have hg:∀ q,q∈N->g q∈N'/\∀ z,kH B x (g q) z=kH K x q z:=fun q hq=>by
  simp only [g,dif_pos hq]
  exact (h.pair nb XL CA F KN F' hq).choose_spec
 have nd:(N.map g).Nodup:=List.pairwise_map.2 (List.Pairwise.imp_of_mem (fun {a b} ha hb hne e=>hne (KL nb (deep a ha).1 (deep a ha).2 (deep b hb).1 (deep b hb).2 fun z=>by rw [<- (hg a ha).2,<- (hg b hb).2,e])) F.nd)
 have:=List.Nodup.length_le_of_subset nd (l₂:=N') fun u hu=>by
  obtain ⟨q,hq,rfl⟩:=List.mem_map.1 hu;exact (hg q hq).1
 simpa using this
theorem Home.room {K B:KV} {l n:Nat} (h:Home K B) (hl:l+2<=K.vars) (hn:jr K l n):jr B l n:=by
 intro C' N' KN F'
 have nb:Nb K l (K.order.getD l 0) (K.order.getD (l+1) 0):=⟨h.ok,h.un,hl,rfl,rfl⟩;have XL:Nb B l (K.order.getD l 0) (K.order.getD (l+1) 0):=⟨h.ok',h.un',by rw [h.vr];exact hl,by rw [h.od],by rw [h.od]⟩;rw [h.od] at KN F';obtain ⟨C,CA⟩:=dU.exists nb;obtain ⟨N,F⟩:=lZ.exists K (K.order.getD l 0) (C.flatMap bY.qs);have e1:=hn C N CA F;have e2:=h.pairs nb XL CA F KN F';have e3:=h.sym.pairs XL nb KN F' CA F;have e4:=h.used;omega
theorem jr.exists {K:KV} {l:Nat} (hk:K.Ok) (hu:K.Uni) (hl:l+2<=K.vars):∃ n,jr K l n:=by
 have nb:Nb K l (K.order.getD l 0) (K.order.getD (l+1) 0):=⟨hk,hu,hl,rfl,rfl⟩;obtain ⟨C,CA⟩:=dU.exists nb;obtain ⟨N,F⟩:=lZ.exists K (K.order.getD l 0) (C.flatMap bY.qs)
 have hh:∀ (C':List bY) (N':List (Nat × Nat)),dU K l (K.order.getD l 0) (K.order.getD (l+1) 0) C'->lZ K (K.order.getD l 0) (C'.flatMap bY.qs) N'->N'.length=N.length:=fun C' N' KN F' =>
  Nat.le_antisymm ((Home.refl hk hu).pairs nb nb KN F' CA F) ((Home.refl hk hu).pairs nb nb CA F KN F')
 refine ⟨K.A.used+N.length-2,fun C' N' KN F'=>?_⟩;have:=hh C' N' KN F';have h2:=KV.uC hk.wf (l:=[0,1]) (by simp) (fun x hx=>hk.oq (by simp at hx;omega))
 simp at h2
 omega
theorem jr.uniq {K:KV} {l n m:Nat} (hk:K.Ok) (hu:K.Uni) (hl:l+2<=K.vars) (h:jr K l n) (h':jr K l m):n=m:=by
 have nb:Nb K l (K.order.getD l 0) (K.order.getD (l+1) 0):=⟨hk,hu,hl,rfl,rfl⟩;obtain ⟨C,CA⟩:=dU.exists nb;obtain ⟨N,F⟩:=lZ.exists K (K.order.getD l 0) (C.flatMap bY.qs);have e1:=h C N CA F;have e2:=h' C N CA F;omega
end Go.Proofs.YtfkopmhpppeheaaGreat
namespace Go.Proofs.YtfkopmhpppeheaaGreat
open Go.RowKit Go.Maps Go.ChangeMaps Go.WideShapes
theorem RH (b v:Nat) (K:KV) (T:List DM) (q:aA) (w:World) (hk:bV w b K T q) (hv:v<K.vars) :
  Calls Tryz.prog 49 #[.pointer (some ⟨b,0,none⟩),.int .i64 v] w fun e w'=>e=.returned (.tuple #[.int .i64 (K.dE v).length,.int .i64 0])/\af [] w w':=by
 have aW:v<T.length:=by rw [hk.ti.len];omega
 have hT:T[v]?=some T[v]:=List.getElem?_eq_getElem aW;generalize T[v]=D at hT;obtain ⟨g,cap,m,t1,t2,t3,c0,c1,aK⟩:=hk.mem.tab.cells hT;have dG:=hk.ti.agY hk.ok.wf hT (aK.canon aT) (aK.tidy aT);have:=WM b v K T q D w hk (by omega) hT;rw [dG] at this;exact this
theorem yj (b1 b2:Nat) (v1 v2:Value) (l:List Nat) (w:World) (h1:w.ownsRow b1 3 1 v1 l.length (aQ l)) (h2:w.ownsRow b2 3 1 v2 l.length (aQ l)) (hl:l.length<=1048576) :
  Calls Tryz.prog 47 #[v1,v2] w fun e w'=>e=.returned (.bool true)/\af [] w w':=by
 obtain ⟨a1,c1,rfl,XG⟩:=aj h1;obtain ⟨a2,c2,rfl,Lp⟩:=aj h2;have H1:=Lib.hid h1;have H2:=Lib.hid h2;clear h1 h2
 go_enter Tryz.func47,Tryz.ntmps47
 go_wp2_with fail
 go_loopg [13] l.length (fun g s13 wr=>∃ i:Nat,l.length-i=g/\i<=l.length/\s13=.int .i64 i/\af [] w wr)
 case atStart=>exact ⟨0,by omega,by omega,rfl,af.refl _ _⟩
 case round =>
  obtain ⟨i,rfl,hi,rfl,hU⟩:=hrel
  by_cases aW:i<l.length
  ·obtain ⟨g1,rfl⟩:=bC H1.out (by omega)
   obtain ⟨g2,rfl⟩:=bC H2.out (by omega)
   have fF:(i:Int)<(l.length:Int):=by omega
   have x1:=nM (ai H1.out fun k hk=>hU.block k (H1.out.lt k hk).2 (by simp)) aW;have x2:=nM (ai H2.out fun k hk=>hU.block k (H2.out.lt k hk).2 (by simp)) aW;generalize l.getD i 0=X at *;have HU:=Lib.hid hU;clear hU
   have Xu:(0:Int)<=(i:Int):=by omega
   go_wp2_with fail
   go_quiet (fail)
   go_wp2_with fail
   go_roundg (l.length-(i+1))
   case measure=>omega
   case rel=>exact ⟨i+1,rfl,by omega,by simp,HU.out.drewN _⟩
  ·obtain rfl:i=l.length:=by omega
   have fF:¬ ((l.length:Int)<(l.length:Int)):=by omega
   have HU:=Lib.hid hU;clear hU;go_wp2_with fail;go_ret;exact ⟨rfl,HU.out⟩
theorem IV (b r:Nat) (x:Int) (K:KV) (F:List Nat) (w:World) (h:aZ w b K F) (hr:K.A.tk r=true) (hx:jU x) :
  Calls Tryz.prog 107 #[.pointer (some ⟨b,0,none⟩),.int .u32 r,.int .u64 x] w fun e w'=>e=.returned (.tuple #[.bool (K.den r fun v=>nb x v),.bool true])/\af [] w w':=by
 have HK:=Lib.hid h;have zx:=h.ok.wf.vs;have HR:=Lib.hid hr;have HX:=Lib.hid hx;clear h hr;unfold jU at hx
 go_enter Tryz.func107,Tryz.ntmps107
 go_wp2_with fail
 go_loopg [1,10] 66 (fun g s1 s10 wr=>∃ (i r':Nat),66-i=g/\i<=66/\s10=.int .i64 i/\s1=.int .u32 r'/\K.A.tk r'=true/\i<=K.dep r'/\(K.den r' (fun v=>nb x v)=K.den r (fun v=>nb x v))/\af [] w wr)
 case atStart=>exact ⟨0,r,by omega,by omega,rfl,rfl,HR.out,by omega,rfl,af.refl _ _⟩
 case round =>
  obtain ⟨i,r',rfl,hi,rfl,rfl,ht,hd,he,hU⟩:=hrel;have Qd:=HK.out.ok.wf.vH HK.out.ok.ord ht
  have ath:i<=64:=by omega
  have fF:(i:Int)<66:=by omega
  by_cases h2:r'<=1
  ·have WS:((r':Int)=0)\/((r':Int)≠0/\(r':Int)=1):=by omega
   have HE:Hid (((r':Int) == 1)=K.den r fun v=>nb x v):=by
    show _=_
    rw [<- he,K.aN (by omega),Bool.eq_iff_iff]
    simp only [beq_iff_eq];omega
   have HU:=Lib.hid hU;clear hU he hd ht Qd
   rcases WS with hz | ⟨hz,ho⟩
   ·have LQ:r'=0:=by omega
    subst LQ;go_wp2_with fail;go_ret2;exact ⟨by rw [<- HE.out];rfl,HU.out⟩
   ·have LQ:r'=1:=by omega
    subst LQ;go_wp2_with fail;go_ret2;exact ⟨by rw [<- HE.out];rfl,HU.out⟩
  ·obtain ⟨p,v,hp,aH,hv,gK,h3,h4,h5,h6,h7⟩:=HK.out.ok.place (r:=r') (by omega) ht
   have hrz:¬ ((r':Int)=0):=by omega
   have hro:¬ ((r':Int)=1):=by omega
   have ati:((r':Int) == 0)=false:=by simp;omega
   have atj:((r':Int) == 1)=false:=by simp;omega
   have HN:=Lib.hid (ug b r' K F p wr (HK.out.upd hU (by simp)) hp aH);rw [hv] at HN
   have HE:Hid (K.den r (fun v=>nb x v)=if nb x v then K.den p.hi (fun v=>nb x v) else K.den p.lo (fun v=>nb x v)):=by
    show _=_
    rw [<- he,h7]
   have HP:=Lib.hid (And.intro h3 (And.intro h4 (And.intro (show i+1<=K.dep p.lo by omega) (show i+1<=K.dep p.hi by omega))));have HU:=Lib.hid hU
   have Xo:¬ ((v:Int)<0):=by omega
   have X4:¬ ((63:Int)<(v:Int)):=by omega
   have atl:(v:Int)<64:=by omega
   have atm:decide ((v:Int)<0)=false:=by simp
   have hdv:decide ((63:Int)<(v:Int))=false:=by simp;omega
   clear hU he hd ht Qd hp aH hv h3 h4 h5 h6 h7;generalize p.lo=lo at *;generalize p.hi=hi at *;go_wp2_with fail;refine HN.out.mono ?_;rintro e w3 ⟨rfl,hu⟩;have o8:=Lib.hid (HU.out.trans hu);clear hu HN;have Uc:=Lib.hid (XX HX.out v);unfold abH at Uc
   cases hbt:(bits BinOp.and IntKind.u64 (x/2 ^ v) 1 == 1) with
   | true =>
    have HG:Hid (K.den hi (fun v=>nb x v)=K.den r (fun v=>nb x v)):=by
     show _=_
     rw [HE.out,<- Uc.out,hbt,if_pos rfl]
    go_wp2_with fail
    go_roundg (66-(i+1))
    case measure=>omega
    case rel=>exact ⟨i+1,hi,rfl,by omega,by simp,rfl,HP.out.2.1,HP.out.2.2.2,HG.out,o8.out.alloc _⟩
   | false =>
    have HG:Hid (K.den lo (fun v=>nb x v)=K.den r (fun v=>nb x v)):=by
     show _=_
     rw [HE.out,<- Uc.out,hbt,if_neg (by simp)]
    go_wp2_with fail
    go_roundg (66-(i+1))
    case measure=>omega
    case rel=>exact ⟨i+1,lo,rfl,by omega,by simp,rfl,HP.out.1,HP.out.2.2.1,HG.out,o8.out.alloc _⟩
theorem RI (b v:Nat) (K:KV) (F:List Nat) (w:World) (h:aZ w b K F) (hv:v<K.vars) :
  Calls Tryz.prog 49 #[.pointer (some ⟨b,0,none⟩),.int .i64 v] w fun e w'=>e=.returned (.tuple #[.int .i64 (K.dE v).length,.int .i64 0])/\af [] w w':=by
 obtain ⟨T,q,hk,rfl⟩:=h;exact RH b v K T q w hk hv
def iM (l:List Bool):List Value:=l.map fun b=>.bool b
def KV.says (K:KV) (l:List Nat) (Xs:List Int):List Bool:=l.flatMap fun r=>Xs.map fun x=>K.den r fun v=>nb x v
theorem KV.says_len (K:KV) (l:List Nat) (Xs:List Int):(K.says l Xs).length=l.length*Xs.length:=by
 induction l with
 | nil=>simp [KV.says]
 | cons a l ih =>
  show ((Xs.map fun x=>K.den a fun v=>nb x v)++K.says l Xs).length=_
  rw [List.length_append,ih,List.length_map,List.length_cons,Nat.add_mul];omega
theorem KV.RJ (K:KV) {l:List Nat} {i r:Nat} (Xs:List Int) (h:l[i]?=some r):K.says (l.take (i+1)) Xs=K.says (l.take i) Xs++Xs.map fun x=>K.den r fun v=>nb x v:=by
 unfold KV.says;rw [List.take_add_one,h,List.flatMap_append];simp
theorem KP (l:List Bool) (b:Bool):iM (l++[b])=iM l++[.bool b]:=by simp [iM]
structure abe (K:KV) (l:List Nat) (Xs:List Int) (w:World) (e:Ending) (w':World):Prop where
 ex:∃ (va:Option Addr) (vc:Nat),e=.returned (.tuple #[.slice va (K.says l Xs).length vc,.bool true])/\w'.ownsRow w.heap.size 4 1 (.slice va (K.says l Xs).length vc) (K.says l Xs).length (iM (K.says l Xs))/\af [] w w'
theorem pJ (b:Nat) (K:KV) (F l:List Nat) (base:Nat) (la xa:Option Addr) (lc xn xc:Nat) (Xs:List Int) (w:World) (hK:aZ w b K F) (aC:w.ownsRow base 77 1 (.slice la l.length lc) l.length (aI l)) (hl:∀ r,r∈l->K.A.tk r=true) (hX:zV w .u64 xa xn Xs) (hU:∀ x,x∈Xs->jU x) (Bv:l.length<=41) (Px:xn<=60) :
  Calls Tryz.prog 42 #[.pointer (some ⟨b,0,none⟩),.slice la l.length lc,.slice xa xn xc] w fun e w'=>abe K l Xs w e w':=by
 obtain ⟨tb,LQ,Sv,rQ,hr3⟩:=info_parts Tryz.uH;have HIB:=Lib.hid (And.intro LQ (And.intro Sv (And.intro rQ hr3)));have HK:=Lib.hid hK;have HR:=Lib.hid aC;have HX:=Lib.hid hX;have HL:=Lib.hid (And.intro hl hU);obtain rfl:Xs.length=xn:=hX.len;clear hK aC hX hl hU LQ Sv rQ hr3
 go_enter Tryz.func42,Tryz.ntmps42
 go_wp2_with fail
 go_loopg [8,17] l.length (fun g s8 s17 wr=>∃ (i:Nat) (va:Option Addr) (vn vc:Nat),l.length-i=g/\i<=l.length/\s8=.slice va vn vc/\vn=i*Xs.length/\s17=.int .i64 i/\wr.ownsRow w.heap.size 4 1 (.slice va vn vc) vn (iM (K.says (l.take i) Xs))/\af [] w wr)
 case atStart=>exact ⟨0,none,0,0,by omega,by omega,rfl,by simp,rfl,World.ownsRow_nil _ _ _ _,af.refl _ _⟩
 case round =>
  obtain ⟨i,va,vn,vc,rfl,hi,rfl,wZ,rfl,hB,hu⟩:=hrel
  by_cases aW:i<l.length
  ·obtain ⟨r,hr⟩ : ∃ r,l[i]?=some r:=⟨_,List.getElem?_eq_getElem aW⟩
   have hrw:=ai HR.out fun k hk=>hu.block k (HR.out.lt k hk).2 (by simp)
   obtain ⟨lg,rfl⟩:=bC hrw (by omega);have cr:=au hrw (jZ hr)
   have fF:(i:Int)<(l.length:Int):=by omega
   have Po:Hid (K.A.tk r=true/\l[i]?=some r):=⟨HL.out.1 r (List.mem_of_getElem? hr),hr⟩;have HB:=Lib.hid (And.intro hB (And.intro hu wZ))
   have hvb:vn<=2460:=by
    rw [wZ];have:=Nat.mul_le_mul (show i<=41 by omega) Px;omega
   clear hrw hr hB hu wZ;go_wp2_with fail;generalize wr=wq at *
   go_loopg [8,23] Xs.length (fun g s8 s23 wr=>∃ (j:Nat) (va:Option Addr) (vm vc:Nat),Xs.length-j=g/\j<=Xs.length/\s8=.slice va vm vc/\vm=vn+j/\s23=.int .i64 j/\wr.ownsRow w.heap.size 4 1 (.slice va vm vc) vm (iM (K.says (l.take i) Xs++(Xs.take j).map fun x=>K.den r fun v=>nb x v))/\af [] w wr)
   case atStart=>exact ⟨0,va,vn,vc,by omega,by omega,rfl,by omega,rfl,by simpa using HB.out.1,HB.out.2.1⟩
   case round =>
    obtain ⟨j,va2,vm,vc2,rfl,hj,rfl,rfl,rfl,hB2,jE⟩:=hrel
    by_cases hlj:j<Xs.length
    ·obtain ⟨x,hx,hcx⟩:=HX.out.at_ j hlj
     subst hx;have cx:=jE.cell0 hcx
     have OJ:(j:Int)<(Xs.length:Int):=by omega
     have hzz:Xs[j]?=some (Xs.getD j 0):=by
      rw [List.getD_eq_getElem?_getD,List.getElem?_eq_getElem hlj];rfl
     have HV:=Lib.hid (IV b r (Xs.getD j 0) K F wr (HK.out.upd jE (by simp)) Po.out.1 (HL.out.2 _ (List.mem_of_getElem? hzz)))
     have LG:Hid ((Xs.take (j+1)).map (fun x=>K.den r fun v=>nb x v)=(Xs.take j).map (fun x=>K.den r fun v=>nb x v)++[K.den r fun v=>nb (Xs.getD j 0) v]):=by
      show _=_
      rw [List.take_add_one,hzz,List.map_append];rfl
     generalize (Xs.getD j 0)=z at *;generalize (K.den r fun v=>nb z v)=fz at *;have LZ:=Lib.hid (And.intro hB2 jE);clear hB2 jE hcx hzz;go_wp2_with fail;refine HV.out.mono ?_;rintro e w5 ⟨rfl,nK⟩
     have HB5:Hid (w5.ownsRow w.heap.size 4 1 (.slice va2 (vn+j) vc2) (vn+j) (iM (K.says (l.take i) Xs++(Xs.take j).map fun x=>K.den r fun v=>nb x v))):=ai LZ.out.1 fun k hk=>nK.block k (LZ.out.1.lt k hk).2 (by simp)
     have Jy:=Lib.hid (LZ.out.2.trans nK)
     have HCB:Hid (∀ u,u∈[Value.bool fz]->u.oneCell'=true):=by intro u hu;simp at hu;subst hu;rfl
     have pW:w.heap.size<=(w5.alloc (.cells #[.bool fz] 4 (0,0))).heap.size:=by rw [World.size_alloc];have:=Jy.out.size;omega
     clear nK cx HV
     go_wp2_with (at_builtin;go_must (refine wpList_append_lies _ rfl (.tmp 36) (.tmp 38) 75 rfl w.heap.size 4 tb _ 1 1 Tryz.underlying75 HIB.out.1 HIB.out.2.1 HIB.out.2.2.1 HIB.out.2.2.2 (by rfl) (by decide) _ (vn+j) (iM (K.says (l.take i) Xs++(Xs.take j).map fun x=>K.den r fun v=>nb x v)) rfl (HB5.out.alloc _) ⟨w5.heap.size,0,none⟩ 1 1 [.bool fz] rfl rfl ?c1 HCB.out (by omega) (by unfold maxLen;omega) (by omega) pW _ rfl ?_))
     try case c1=>exact World.news_of_block (heap_alloc_new w5 (.cells #[.bool fz] 4 (0,0)))
     intro g2 jc w6 aK dh bI Yp
     have uI:af [] w w6:=(Jy.out.alloc (.cells #[.bool fz] 4 (0,0))).grown dh fun k hk=>.inr (HB5.out.lt k hk).1
     have RP:Hid (w6.ownsRow w.heap.size 4 1 (.slice (some ⟨g2,0,none⟩) (vn+j+1) jc) (vn+j+1) (iM (K.says (l.take i) Xs++(Xs.take (j+1)).map fun x=>K.den r fun v=>nb x v))/\af [] w w6):=by
      refine ⟨?_,uI⟩;rw [LG.out,<- List.append_assoc,KP,List.map_take];exact aK
     clear aK dh bI Yp uI pW;go_wp2_with fail
     go_roundg (Xs.length-(j+1))
     case measure=>omega
     case rel=>exact ⟨j+1,some ⟨g2,0,none⟩,vn+j+1,jc,rfl,by omega,rfl,by omega,by simp,RP.out.1,RP.out.2⟩
    ·obtain rfl:j=Xs.length:=by omega
     have OJ:¬ ((Xs.length:Int)<(Xs.length:Int)):=by omega
     have RP:Hid (wr.ownsRow w.heap.size 4 1 (.slice va2 (vn+Xs.length) vc2) (vn+Xs.length) (iM (K.says (l.take (i+1)) Xs))/\af [] w wr/\vn+Xs.length=(i+1)*Xs.length):=by
      refine ⟨?_,jE,by rw [HB.out.2.2,Nat.add_mul];omega⟩;rw [K.RJ Xs Po.out.2];rw [List.take_length] at hB2;exact hB2
     clear hB2 jE;go_wp2_with fail
     go_roundg (l.length-(i+1))
     case measure=>omega
     case rel=>exact ⟨i+1,va2,vn+Xs.length,vc2,rfl,by omega,rfl,RP.out.2.2,by simp,RP.out.1,RP.out.2.1⟩
  ·obtain rfl:i=l.length:=by omega
   have fF:¬ ((l.length:Int)<(l.length:Int)):=by omega
   have HE:Hid (abe K l Xs w (.returned (.tuple #[.slice va vn vc,.bool true])) wr):=by
    have e:vn=(K.says l Xs).length:=by rw [K.says_len,wZ]
    rw [List.take_length] at hB;subst e;exact ⟨va,vc,rfl,hB,hu⟩
   clear hB hu wZ;go_wp2_with fail;refine bodyPost_ret (v:=.tuple #[.slice va vn vc,.bool true]) (by simp [results,Tryz.results42,go_sem]) rfl HE.out
theorem lF:Keyed Tryz.prog 3:=int_keyed Tryz.underlying3
structure kJ (mk:Nat->Lit) (B:Nat) (f:Nat->Int) (V:List Nat) (D:DM):Prop where
 im:IsMap D
 has:∀ r:Nat,r<B->(Maps.has D (mk r)=true↔r∈V)
 at_:∀ r:Nat,r<B->r∈V->∀ z,D.atKey (mk r) z=.lit (.int .i64 (f r))
 dom:∀ k,Maps.has D k=true->∃ r:Nat,k=mk r/\r<B
theorem kJ.nil (mk:Nat->Lit) (B:Nat) (f:Nat->Int):kJ mk B f [] (.map []):=⟨isMap_empty,fun r _=>by simp [Maps.has],fun r _ h=>by simp at h,fun k h=>by simp [Maps.has] at h⟩
theorem kJ.put {mk:Nat->Lit} {B:Nat} {f:Nat->Int} {V:List Nat} {D:DM} {r:Nat} (h:kJ mk B f V D) (hk:∀ r,WideAt.IsKeyLit (mk r)) (inj:∀ r s,mk r=mk s->r=s) (hr:r<B):kJ mk B f (V++[r]) (D.put (mk r) (.lit (.int .i64 (f r)))):=by
 have ag2:∀ x:Nat,x≠r->mk x≠mk r:=fun x hx e=>hx (inj _ _ e)
 refine ⟨h.im.put _ _,fun x hx=>?_,fun x hx hh z=>?_,fun k LJ=>?_⟩
 ·by_cases e:x=r
  ·subst e;simp [has_put_same h.im (hk x)]
  ·rw [has_put_other (ag2 x e),h.has x hx];simp [e]
 ·by_cases e:x=r
  ·subst e;exact atKey_put_same h.im (hk x) _ z
  ·have:x∈V:=by simpa [e] using hh
   rw [atKey_put_other (ag2 x e)];exact h.at_ x hx this z
 ·by_cases e:k=mk r
  ·exact ⟨r,e,hr⟩
  ·rw [has_put_other e] at LJ;exact h.dom k LJ
theorem kJ.size {mk:Nat->Lit} {B:Nat} {f:Nat->Int} {V:List Nat} {D:DM} (h:kJ mk B f V D) (inj:∀ r s,mk r=mk s->r=s) (hV:V.Nodup) (hB:∀ r,r∈V->r<B) (hc:Maps.Canon D) (ht:Tidy D):Maps.size D=V.length:=by
 refine Nat.le_antisymm ?_ ?_
 ·have:=gm hc (ks:=V.map mk) (fun k hk=>by
   obtain ⟨r,rfl,hr⟩:=h.dom k hk
   exact List.mem_map.2 ⟨r,(h.has r hr).1 hk,rfl⟩) ht
  simpa using this
 ·obtain ⟨es,e,_⟩:=hc
  have:=yg e (ks:=V.map mk) (List.pairwise_map.2 (List.Pairwise.imp (fun {a b} hne e=>hne (inj _ _ e)) hV)) (fun k hk=>by
   obtain ⟨r,hr,rfl⟩:=List.mem_map.1 hk
   exact (h.has r (hB r hr)).2 hr)
  simpa using this
def kI (v:Nat):Lit:=.int .i64 v
def kR (r:Nat):Lit:=.int .u32 r
theorem Oj:∀ r s,kI r=kI s->r=s:=fun r s e=>by simp [kI] at e;omega
theorem Ol:∀ r s,kR r=kR s->r=s:=fun r s e=>by simp [kR] at e;omega
structure nV (K:KV) (V:List Nat) (D:DM):Prop where
 im:IsMap D
 at_:∀ (r:Nat) (p:ak),r∈V->K.A.list[r]?=some p->Maps.has D (kG p)=true/\∀ z,D.atKey (kG p) z=.lit (.int .u32 r)
 dom:∀ k,Maps.has D k=true->∃ (r:Nat) (p:ak),r∈V/\K.A.list[r]?=some p/\k=kG p
theorem nV.nil (K:KV):nV K [] (.map []):=⟨isMap_empty,fun r p h=>by simp at h,fun k h=>by simp [Maps.has] at h⟩
theorem KV.Ok.Bj {K:KV} (hk:K.Ok) (hu:K.Uni) {r s:Nat} {p q:ak} (hr:2<=r) (hs:2<=s) (hp:K.A.list[r]?=some p) (aH:p.taken=true) (hq:K.A.list[s]?=some q) (rC:q.taken=true) (e:kG p=kG q):r=s:=by
 have h1:=hk.wf.ok.u32 p (List.mem_of_getElem? hp);have h2:=hk.wf.ok.u32 q (List.mem_of_getElem? hq);have v1:=hk.wf.vr r p hr hp aH;have v2:=hk.wf.vr s q hs hq rC;have zx:=hk.wf.vs;obtain ⟨e1,e2,e3⟩:=tY (vw (by omega) (by omega)) (jw h1.1) (jw h1.2.1) (vw (by omega) (by omega)) (jw h2.1) (jw h2.2.1) e;exact hu r s p q hr hs hp hq aH rC e1 e2 e3
theorem nV.put {K:KV} (hk:K.Ok) (hu:K.Uni) {V:List Nat} {D:DM} {r:Nat} {p:ak} (h:nV K V D) (h2:∀ s,s∈V->2<=s/\K.A.tk s=true) (rQ:2<=r) (hp:K.A.list[r]?=some p) (aH:p.taken=true):nV K (V++[r]) (D.put (kG p) (.lit (.int .u32 r))):=by
 have hl:WideAt.IsKeyLit (kG p):=trivial;refine ⟨h.im.put _ _,fun s q hs hq=>?_,fun k LJ=>?_⟩
 ·by_cases e:s=r
  ·subst e;rw [hp] at hq;cases hq
   exact ⟨has_put_same h.im hl _,fun z=>atKey_put_same h.im hl _ z⟩
  ·have uO:s∈V:=by simpa [e] using hs
   obtain ⟨s2,st⟩:=h2 s uO;obtain ⟨q',YI,rC⟩:=ag.aP.1 st
   rw [hq] at YI;cases YI
   have hne:kG q≠kG p:=fun e2=>e (hk.Bj hu s2 rQ hq rC hp aH e2)
   rw [has_put_other hne,show (∀ z,(D.put (kG p) (.lit (.int .u32 r))).atKey (kG q) z=.lit (.int .u32 s))↔(∀ z,D.atKey (kG q) z=.lit (.int .u32 s)) from forall_congr' fun z=>by rw [atKey_put_other hne]];exact h.at_ s q uO hq
 ·by_cases e:k=kG p
  ·exact ⟨r,p,by simp,hp,e⟩
  ·rw [has_put_other e] at LJ
   obtain ⟨s,q,hs,hq,ek⟩:=h.dom k LJ;exact ⟨s,q,List.mem_append_left _ hs,hq,ek⟩
theorem nV.no {K:KV} (hk:K.Ok) (hu:K.Uni) {V:List Nat} {D:DM} {r:Nat} {p:ak} (h:nV K V D) (h2:∀ s,s∈V->2<=s/\K.A.tk s=true) (rQ:2<=r) (hp:K.A.list[r]?=some p) (aH:p.taken=true) (hn:r∉V):Maps.has D (kG p)=false:=by
 cases e:Maps.has D (kG p) with
 | false=>rfl
 | true =>
  obtain ⟨s,q,hs,hq,ek⟩:=h.dom _ e;obtain ⟨s2,st⟩:=h2 s hs;obtain ⟨q',YI,rC⟩:=ag.aP.1 st
  rw [hq] at YI;cases YI
  have:=hk.Bj hu rQ s2 hp aH hq rC ek;subst this;exact absurd hs hn
theorem nV.size {K:KV} {V:List Nat} {D:DM} (h:nV K V D) (hc:Maps.Canon D) (ht:Tidy D):Maps.size D<=V.length:=by
 have:=gm hc (ks:=V.map fun r=>match K.A.list[r]? with | some p=>kG p | none=>nk 0 0 0) (fun k hk=>by
  obtain ⟨r,p,hr,hp,rfl⟩:=h.dom k hk
  exact List.mem_map.2 ⟨r,hr,by rw [hp]⟩) ht
 simpa using this
theorem KV.Ok.used_m {K:KV} (hk:K.Ok):K.A.used<=1048576:=by
 have:=KV.XW hk.wf (l:=List.range 1048576) fun x hx=>List.mem_range.2 (hk.bZ hx)
 simpa using this
structure qZ (K:KV) (D L:List Nat) (i:Nat):Prop where
 nd:D.Nodup
 lv:∀ r,r∈D->2<=r/\K.A.tk r=true
 tl:∀ r,r∈L->K.A.tk r=true
 il:i<=L.length
 dn:∀ j r,j<i->L[j]?=some r->2<=r->r∈D
 kd:∀ (r:Nat) (p:ak),r∈D->K.A.list[r]?=some p->p.lo∈L/\p.hi∈L
 rt:∀ r,0<K.hold r->r∈L
 ln:L.length<=K.roots.length+2*D.length
theorem qZ.start {K:KV} (hk:K.Ok):qZ K [] K.roots 0 :=
 ⟨List.nodup_nil,by simp,fun r hr=>hk.kz (KV.jm.1 hr),Nat.zero_le _,fun j r hj=>by omega,fun r p hr=>by simp at hr,fun r hr=>KV.jm.2 hr,by simp⟩
theorem qZ.skip {K:KV} {D L:List Nat} {i r:Nat} (h:qZ K D L i) (hr:L[i]?=some r) (hd:r∈D\/r<2):qZ K D L (i+1) :=
 ⟨h.nd,h.lv,h.tl,(List.getElem?_eq_some_iff.1 hr).1,fun j s hj hs h2=>by
  by_cases e:j=i
  ·subst e;rw [hr] at hs;cases hs;exact hd.elim id fun h=>by omega
  ·exact h.dn j s (by omega) hs h2,h.kd,h.rt,h.ln⟩
theorem qZ.node {K:KV} {D L:List Nat} {i r:Nat} {p:ak} (hk:K.Ok) (h:qZ K D L i) (hr:L[i]?=some r) (hd:r∉D) (h2:2<=r) (hp:K.A.list[r]?=some p) (aH:p.taken=true):qZ K (D++[r]) (L++[p.lo,p.hi]) (i+1):=by
 have fF:=(List.getElem?_eq_some_iff.1 hr).1;have hc:=hk.wf.cl r p h2 hp aH;refine ⟨?_,fun s hs=>?_,fun s hs=>?_,by simp;omega,fun j s hj hs dR=>?_,fun s q hs hq=>?_,fun s hs=>List.mem_append_left _ (h.rt s hs),?_⟩
 ·rw [List.nodup_append]
  exact ⟨h.nd,by simp,fun a ha c hc=>by simp at hc;subst hc;rintro rfl;exact hd ha⟩
 ·rcases List.mem_append.1 hs with hs | hs
  ·exact h.lv s hs
  ·simp at hs;subst hs;exact ⟨h2,ag.aP.2 ⟨p,hp,aH⟩⟩
 ·rcases List.mem_append.1 hs with hs | hs
  ·exact h.tl s hs
  ·simp at hs
   rcases hs with rfl | rfl
   ·exact hc.1
   ·exact hc.2
 ·rw [List.getElem?_append_left (by omega)] at hs
  by_cases e:j=i
  ·subst e;rw [hr] at hs;cases hs;simp
  ·exact List.mem_append_left _ (h.dn j s (by omega) hs dR)
 ·rcases List.mem_append.1 hs with hs | hs
  ·have:=h.kd s q hs hq
   exact ⟨List.mem_append_left _ this.1,List.mem_append_left _ this.2⟩
  ·simp at hs;subst hs
   rw [hp] at hq;cases hq
   simp
 ·have:=h.ln
  rw [List.length_append,List.length_append]
  simp;omega
theorem qZ.all {K:KV} {D L:List Nat} (hk:K.Ok) (h:qZ K D L L.length) (r:Nat):r∈D↔2<=r/\K.A.tk r=true:=by
 refine ⟨h.lv r,fun ⟨h2,ht⟩=>?_⟩
 have wK:∀ r,r∈L->2<=r->r∈D:=fun r hr h2=>by
  obtain ⟨j,hj⟩:=List.getElem?_of_mem hr;exact h.dn j r (List.getElem?_eq_some_iff.1 hj).1 hj h2
 have key:∀ s,K.Reach s->s∈L:=fun s hs=>by
  induction hs with
  | root h0=>exact h.rt _ h0
  | lo hq h2 hp aH ih=>exact (h.kd _ _ (wK _ ih h2) hp).1
  | hi hq h2 hp aH ih=>exact (h.kd _ _ (wK _ ih h2) hp).2
 exact wK r (key r (KV.mZ hk.wf hk.pos hk.ord _ r h2 ht (Nat.le_refl _))) h2
theorem qZ.lens {K:KV} {D L:List Nat} {i:Nat} (h:qZ K D L i) (hk:K.Ok):D.length<=K.A.used/\L.length<=3*K.A.used:=by
 have h1:=KV.uC hk.wf h.nd fun r hr=>(h.lv r hr).2
 have h2:=KV.uC hk.wf K.uy fun r hr=>hk.kz (KV.jm.1 hr)
 have:=h.ln;exact ⟨h1,by omega⟩
theorem qZ.live {K:KV} {D L:List Nat} (hk:K.Ok) (h:qZ K D L L.length):(D.length:Int)=(K.A.used:Int)-2:=by
 have e:D.length=K.nodes.length:=Nat.le_antisymm
  (List.Nodup.length_le_of_subset h.nd fun r hr=>KV.bP.2 (h.lv r hr))
  (List.Nodup.length_le_of_subset K.gq fun r hr=>(h.all hk r).2 (KV.bP.1 hr))
 have:=hk.nodes_len;omega
def KV.jD (K:KV) (D:List Nat) (v:Nat):Nat:=(D.filter fun r=>decide (K.vI r=(v:Int))).length
def KV.sF (K:KV) (D:List Nat):List Nat:=(List.range K.vars).map (K.jD D)
theorem KV.yl (K:KV) (D:List Nat):(K.sF D).length=K.vars:=by simp [KV.sF]
theorem KV.WT (K:KV):K.sF []=List.replicate K.vars 0:=by
 rw [List.eq_replicate_iff];refine ⟨K.yl [],fun b hb=>?_⟩;obtain ⟨v,_,rfl⟩:=List.mem_map.1 hb
 simp [KV.jD]
theorem KV.WU (K:KV) (D:List Nat) {r v:Nat} (hv:v<K.vars) (hr:K.vI r=(v:Int)):K.sF (D++[r])=(K.sF D).set v (K.jD D v+1):=by
 apply List.ext_getElem?
 intro i
 by_cases hi:i<K.vars
 ·rw [KV.sF,List.getElem?_map,List.getElem?_range hi]
  by_cases e:v=i
  ·subst e
   rw [List.getElem?_set_self (by rw [K.yl];exact hv)]
   simp [KV.jD,List.filter_append,hr]
  ·rw [List.getElem?_set_ne e,KV.sF,List.getElem?_map,List.getElem?_range hi]
   have:¬ (v:Int)=(i:Int):=by omega
   simp [KV.jD,List.filter_append,hr,this]
 ·rw [List.getElem?_eq_none (by rw [K.yl];omega),List.getElem?_eq_none (by rw [List.length_set,K.yl];omega)]
theorem KV.KQ (K:KV) (D:List Nat) (v:Nat):K.jD D v<=D.length:=List.length_filter_le _ _
theorem qZ.wid {K:KV} {D L:List Nat} (hk:K.Ok) (h:qZ K D L L.length) (v:Nat):K.jD D v=(K.dE v).length:=by
 unfold KV.jD
 exact Nat.le_antisymm
  (List.Nodup.length_le_of_subset (List.Pairwise.filter _ h.nd) fun r hr=>by
   rw [List.mem_filter,decide_eq_true_eq] at hr;obtain ⟨a,b⟩:=h.lv r hr.1
   exact KV.qY.2 ⟨a,b,hr.2⟩)
  (List.Nodup.length_le_of_subset (List.Pairwise.filter _ K.gq) fun r hr=>by
   obtain ⟨a,b,c⟩:=KV.qY.1 hr;rw [List.mem_filter,decide_eq_true_eq]
   exact ⟨(h.all hk r).2 ⟨a,b⟩,c⟩)
def lX (l:List Nat):Array Value:=(l.map fun n:Nat=>Value.int .i64 (n:Int)).toArray
structure rq (lm sm dm wg:Nat) (K:KV) (w0:World) (D L:List Nat) (lv:Value) (wr:World):Prop where
 lev:∃ S,kJ kI 64 (fun v=>(K.lev v:Int)) K.order S/\wr.ownsMap Tryz.prog 3 (plainElem (H:=Unit) Tryz.prog 3) lm (Maps.size S) S
 sn:∃ S,nV K D S/\wr.ownsMap Tryz.prog 116 (plainElem (H:=Unit) Tryz.prog 77) sm (Maps.size S) S
 dn:∃ S,kJ kR 1048576 (fun r=>(K.dep r:Int)) D S/\wr.ownsMap Tryz.prog 77 (plainElem (H:=Unit) Tryz.prog 3) dm (Maps.size S) S
 wd:wr.heap[wg]?=some (.cells (lX (K.sF D)) 3 (0,0))
 row:wr.ownsRow w0.heap.size 77 1 lv L.length (aI L)
 nb:∀ k,lv.ownBlock=some k->k≠lm/\k≠sm/\k≠dm/\k≠wg
 ne:lm≠sm/\lm≠dm/\lm≠wg/\sm≠dm/\sm≠wg/\dm≠wg
 ge:w0.heap.size<=lm/\w0.heap.size<=sm/\w0.heap.size<=dm/\w0.heap.size<=wg
 up:af [] w0 wr
theorem rq.keep {lm sm dm wg:Nat} {K:KV} {w0 wr w2:World} {D L:List Nat} {lv:Value} (h:rq lm sm dm wg K w0 D L lv wr) (u:af [] wr w2):rq lm sm dm wg K w0 D L lv w2:=by
 obtain ⟨S1,a1,b1⟩:=h.lev;obtain ⟨S2,a2,b2⟩:=h.sn;obtain ⟨S3,a3,b3⟩:=h.dn;exact ⟨⟨S1,a1,aV b1 (u.block _ b1.lt (by simp))⟩,⟨S2,a2,aV b2 (u.block _ b2.lt (by simp))⟩,⟨S3,a3,aV b3 (u.block _ b3.lt (by simp))⟩,(u.block _ (ah h.wd) (by simp)).trans h.wd,ai h.row fun k hk=>u.block k (h.row.lt k hk).2 (by simp),h.nb,h.ne,h.ge,h.up.trans u⟩
theorem rq.done {lm sm dm wg:Nat} {K:KV} {w0 wr:World} {D L:List Nat} {lv:Value} (h:rq lm sm dm wg K w0 D L lv wr) {r:Nat} (hr:r<1048576) :
  ∃ c:Int,(Instr.lookup 114 (.map (some dm)) (.int .u32 r) true).run Tryz.prog wr=.ok (.tuple #[.int .i64 c,.bool (decide (r∈D))]) wr/\(r∈D->c=(K.dep r:Int)):=by
 obtain ⟨S,hS,hM⟩:=h.dn;obtain ⟨v,ps,gW,hv⟩:=hM.look_ok iP Tryz.underlying114 (uD _) (plainElem_int (H:=Unit) Tryz.underlying3 (vw (n:=0) (by omega) (by omega))) (keyOf_int_mk Tryz.underlying77 (jw (n:=r) (by omega)));obtain ⟨c,rfl,hc,_⟩:=plainElem_int_inv Tryz.underlying3 hv
 have e:Maps.has S (.int .u32 r)=decide (r∈D):=by
  rw [Bool.eq_iff_iff,decide_eq_true_eq];exact hS.has r hr
 rw [e] at gW;refine ⟨c,gW,fun hd=>?_⟩;have h1:=hS.at_ r hr hd (.lit (.int .i64 0));have h2:=(Prod.mk.inj hc).1;rw [show kR r=.int .u32 r from rfl] at h1;rw [h1] at h2
 simpa using h2.symm
theorem rq.ag3 {lm sm dm wg:Nat} {K:KV} {w0 wr:World} {D L:List Nat} {lv:Value} (h:rq lm sm dm wg K w0 D L lv wr) {r:Nat} (hr:r<1048576) (hd:r∈D) :
  (Instr.lookup 114 (.map (some dm)) (.int .u32 r) false).run Tryz.prog wr=.ok (.int .i64 (K.dep r:Nat)) wr:=by
 obtain ⟨S,hS,hM⟩:=h.dn;obtain ⟨c,gW,bI,_⟩:=hM.lookup_int iP Tryz.underlying114 Tryz.underlying3 (uD _) (keyOf_int_mk Tryz.underlying77 (jw (n:=r) (by omega)));have h1:=hS.at_ r hr hd (.lit (.int .i64 0));rw [show kR r=.int .u32 r from rfl] at h1;rw [h1] at bI
 have:(K.dep r:Int)=c:=by simpa using bI
 rw [<- this] at gW;exact gW
theorem rq.amo {lm sm dm wg:Nat} {K:KV} {w0 wr:World} {D L:List Nat} {lv:Value} (h:rq lm sm dm wg K w0 D L lv wr) (hD:D.Nodup) (hB:∀ r,r∈D->r<1048576):∃ S:DM,wr.ownsMap Tryz.prog 77 (plainElem (H:=Unit) Tryz.prog 3) dm (Maps.size S) S/\Maps.size S=D.length:=by
 obtain ⟨S,hS,hM⟩:=h.dn;exact ⟨S,hM,hS.size Ol hD hB (hM.canon iP) (hM.tidy iP)⟩
theorem rq.note {lm sm dm wg:Nat} {K:KV} {w0 wr:World} {D L:List Nat} {lv:Value} (hk:K.Ok) (hu:K.Uni) (h:rq lm sm dm wg K w0 D L lv wr) (hD:∀ s,s∈D->2<=s/\K.A.tk s=true) (AL:D.Nodup) {r pv:Nat} {p:ak} (h2:2<=r) (hp:K.A.list[r]?=some p) (aH:p.taken=true) (kD:p.var=(pv:Int)) (hn:r∉D) :
  (∃ c:Int,(Instr.lookup 186 (.map (some sm)) (.agg #[.int .i64 pv,.int .u32 p.lo,.int .u32 p.hi]) true).run Tryz.prog wr=.ok (.tuple #[.int .u32 c,.bool false]) wr) /\
  ∃ w1 w2:World,(Instr.mapUpdate 186 (.map (some sm)) (.agg #[.int .i64 pv,.int .u32 p.lo,.int .u32 p.hi]) (.int .u32 r)).run Tryz.prog wr=.ok () w1 /\
   (Instr.lookup 185 (.map (some lm)) (.int .i64 pv) false).run Tryz.prog w1=.ok (.int .i64 (K.lev pv:Nat)) w1 /\
   (Instr.mapUpdate 114 (.map (some dm)) (.int .u32 r) (.int .i64 (K.lev pv:Nat))).run Tryz.prog w1=.ok () w2 /\
   af [sm] wr w1/\af [dm] w1 w2/\w2.heap[wg]?=some (.cells (lX (K.sF D)) 3 (0,0)) /\
   rq lm sm dm wg K w0 (D++[r]) L lv (w2.setCell ⟨wg,pv,none⟩ (.int .i64 ((K.jD D pv:Nat)+1))):=by
 obtain ⟨S1,a1,b1⟩:=h.lev;obtain ⟨S2,a2,b2⟩:=h.sn;obtain ⟨S3,a3,b3⟩:=h.dn;have rF:=hk.bZ (ag.aP.2 ⟨p,hp,aH⟩);have oV:=hk.wf.vr r p h2 hp aH;have zx:=hk.wf.vs;have rY:=hk.wf.ok.u32 p (List.mem_of_getElem? hp)
 have Om:pv<K.vars:=by omega
 obtain ⟨n1,n2,n3,n4,n5,n6⟩:=h.ne;obtain ⟨g1,g2,g3,g4⟩:=h.ge
 have iV:keyOf Tryz.prog 116 (.agg #[.int .i64 pv,.int .u32 p.lo,.int .u32 p.hi])=some (kG p):=by
  have:=zK (v:=p.var) (lo:=p.lo) (hi:=p.hi) (vw (by omega) (by omega)) (jw rY.1) (jw rY.2.1);rw [kD] at this;rw [this,kG,kD]
 have amq:∀ s,s∈D->s<1048576:=fun s hs=>hk.bZ (hD s hs).2
 have yK:=a3.size Ol AL amq (b3.canon iP) (b3.tidy iP);have BB:=a2.size (b2.canon aT) (b2.tidy aT);have hDl:D.length<=1048576:=Nat.le_trans (KV.uC hk.wf AL fun s hs=>(hD s hs).2) hk.used_m;refine ⟨?_,?_⟩
 ·obtain ⟨v,ps,gW,hv⟩:=b2.look_ok aT Tryz.underlying186 (qF _) (plainElem_int (H:=Unit) Tryz.underlying77 (jw (n:=0) (by omega))) iV
  obtain ⟨c,rfl,hc,_⟩:=plainElem_int_inv Tryz.underlying77 hv;rw [a2.no hk hu hD h2 hp aH hn] at gW;exact ⟨c,gW⟩
 ·obtain ⟨w1,WV,Zt,t1⟩:=b2.store aT Tryz.underlying186 (by unfold maxLen;omega) iV (plainElem_int (H:=Unit) Tryz.underlying77 (jw (n:=r) (by omega)))
  have u1:=gG t1;have b11:=aV b1 (u1.block _ b1.lt (by simp;exact n1));have b31:=aV b3 (u1.block _ b3.lt (by simp;exact n4.symm));obtain ⟨c,abf,bI,_⟩:=b11.lookup_int lF Tryz.underlying185 Tryz.underlying3 (uD _) (keyOf_int_mk Tryz.underlying3 (vw (n:=(pv:Int)) (by omega) (by omega)));have wK:pv∈K.order:=List.mem_of_getElem? (hk.ord.pm.nI Om);have uG:=a1.at_ pv (by omega) wK (.lit (.int .i64 0));rw [show kI pv=.int .i64 pv from rfl] at uG;rw [uG] at bI
  have uF:(K.lev pv:Int)=c:=by simpa using bI
  rw [<- uF] at abf;have Ht:=(hk.ord.pm.lo pv Om).1;obtain ⟨w2,ac5,amr,t2⟩:=b31.store iP Tryz.underlying114 (by unfold maxLen;omega) (keyOf_int_mk Tryz.underlying77 (jw (n:=r) (by omega))) (plainElem_int (H:=Unit) Tryz.underlying3 (vw (n:=(K.lev pv:Int)) (by omega) (by omega)));have u2:=gG t2
  have gV:w2.heap[wg]?=some (.cells (lX (K.sF D)) 3 (0,0)):=by
   rw [u2.block wg (by rw [zu t1];exact ah h.wd) (by simp;exact n6.symm),u1.block wg (ah h.wd) (by simp;exact n5.symm)];exact h.wd
  have hdp:K.dep r=K.lev pv:=by simp [KV.dep,hp,kD]
  have oZ:=aB (j:=pv) gV (.int .i64 ((K.jD D pv:Nat)+1))
  have ne3:∀ k,k≠wg->(w2.setCell ⟨wg,pv,none⟩ (.int .i64 ((K.jD D pv:Nat)+1))).heap[k]?=w2.heap[k]?:=fun k LJ=>aG (by exact LJ)
  have hwk:∀ k,k<wr.heap.size->k≠sm->k≠dm->k≠wg->(w2.setCell ⟨wg,pv,none⟩ (.int .i64 ((K.jD D pv:Nat)+1))).heap[k]?=wr.heap[k]?:=fun k hl e1 e2 e3=>by
   rw [ne3 k e3,u2.block k (by rw [zu t1];exact hl) (by simp;exact e2),u1.block k hl (by simp;exact e1)]
  refine ⟨w1,w2,WV,abf,ac5,u1,u2,gV,⟨S1,a1,aV b1 (hwk _ b1.lt n1 n2 n3)⟩,⟨_,a2.put hk hu hD h2 hp aH,aV (dZ Zt) ?_⟩,⟨_,?_,aV (dZ amr) (ne3 _ n6)⟩,?_,ai h.row fun k LJ=>?_,h.nb,h.ne,h.ge,?_⟩
  ·rw [ne3 _ n5,u2.block sm (dZ Zt).lt (by simp;exact n4)]
  ·show kJ kR 1048576 (fun r=>(K.dep r:Int)) (D++[r]) (S3.put (kR r) (.lit (.int .i64 (K.lev pv:Nat))))
   rw [<- hdp];exact a3.put (fun _=>trivial) Ol rF
  ·rw [oZ,K.WU D Om (by rw [KV.jK hp,kD])]
   congr 2
   unfold lX;rw [List.map_set];simp
  ·have:=h.nb k LJ
   exact hwk k (h.row.lt k LJ).2 this.2.1 this.2.2.1 this.2.2.2
  ·have e1:af [sm,dm,wg] wr (w2.setCell ⟨wg,pv,none⟩ (.int .i64 ((K.jD D pv:Nat)+1))):=((u1.mono (by simp)).trans (u2.mono (by simp))).setCell (.inl (by simp)) _
   exact h.up.then e1 fun k LJ=>.inr (by simp at LJ;rcases LJ with rfl | rfl | rfl <;> assumption)
end Go.Proofs.YtfkopmhpppeheaaGreat
