import Derived.Test.YtfkopmhpppeheaaGreatPN28
import Derived.Test.YtfkopmhpppeheaaGreatPN20
import Derived.Test.YtfkopmhpppeheaaGreatPN23
import Derived.Test.YtfkopmhpppeheaaGreatPN17
import Derived.Test.YtfkopmhpppeheaaGreatPN18
import Derived.Test.YtfkopmhpppeheaaGreatPN1
import Derived.Deep.DeepCutAuto
import Derived.Laws.ResultCell
import Derived.Laws.Rows
import Derived.Deep.RegionLaw
import Derived.Deep.AppendLies
set_option maxRecDepth 100000
set_option maxHeartbeats 1600000
namespace Go.Proofs.YtfkopmhpppeheaaGreat
open Go.RowKit Go.Maps Go.ChangeMaps Go.WideShapes
def KV.dX (K:KV) (l:Nat):KV:={ K with trail:=K.trail++[l] }
theorem KV.Ok.dX {K:KV} (h:K.Ok) {l:Nat} (hl:l+2<=K.vars):(K.dX l).Ok:=by
 refine ⟨⟨h.wf.ok,h.wf.len,h.wf.ul,h.wf.tu,h.wf.ht,h.wf.hm,h.wf.eq,h.wf.pt,h.wf.cl,h.wf.vr,h.wf.vs⟩,h.pos,h.ord.same rfl rfl rfl rfl,fun x hx=>?_⟩
 rcases List.mem_append.1 hx with hx | hx
 ·exact h.tl x hx
 ·simp at hx;subst hx;exact hl
def KV.IC (K:KV):KV:={ K with trail:=K.trail.dropLast }
theorem KV.Ok.IC {K:KV} (h:K.Ok):K.IC.Ok :=
 ⟨⟨h.wf.ok,h.wf.len,h.wf.ul,h.wf.tu,h.wf.ht,h.wf.hm,h.wf.eq,h.wf.pt,h.wf.cl,h.wf.vr,h.wf.vs⟩,h.pos,h.ord.same rfl rfl rfl rfl,fun x hx=>h.tl x (List.dropLast_subset _ hx)⟩
structure aaT (b:Nat) (K:KV) (l:Int) (q:aA) (w:World) (e:Ending) (w':World):Prop where
  ex:∃ (code:Int) (K':KV) (T':List DM) (q':aA),e=.returned (.int .i64 code)∧bV w' b K' T' q'∧af (q.all b) w w'∧Sub (q.all b) w (q'.all b) ∧
    ((code=1∧(l < 0∨(K.vars:Int) - 2 < l)∧K'=K) ∨
     ∃ n:Nat,l=(n:Int)∧n + 2≤K.vars∧∃ (C:List bY) (N:List (Nat × Nat)),dU K n (K.order.getD n 0) (K.order.getD (n + 1) 0) C∧lZ K (K.order.getD n 0) (C.flatMap bY.qs) N ∧
      ((code=9∧K.A.places < K.A.used + N.length∧K'=K)∨(code=0∧K.A.used + N.length≤K.A.places∧∃ K1,xK K n K1∧(C=[]→K1=K.qc n)∧K'=K1.dX n)))
theorem vF (b:Nat) (l:Int) (K:KV) (T:List DM) (q:aA) (w:World) (h:bV w b K T q) (qG:K.trail.length<=1000000) :
  Calls Tryz.prog 29 #[.pointer (some ⟨b,0,none⟩),.int .i64 l] w fun e w'=>aaT b K l q w e w':=by
 obtain ⟨ti,sG,tV,jY,fE⟩:=info_parts Tryz.UU;have HI:=Lib.hid (And.intro sG (And.intro tV (And.intro jY fE)));have zx:=h.ok.wf.vs;have c4:w.cell? ⟨b,4,none⟩=some (.int .i64 K.vars):=ae h.mem.blk rfl;have HK:=Lib.hid h;clear h sG tV jY fE
 by_cases h0:l<0
 ·have hd0:decide (l<0)=true:=by simpa using h0
  go_enter Tryz.func29,Tryz.ntmps29
  go_wp2_with fail;go_ret;exact ⟨1,K,T,q,rfl,HK.out,af.refl _ _,Sub.refl _ _,.inl ⟨rfl,.inl h0,rfl⟩⟩
 ·have hd0:decide (l<0)=false:=by simpa using h0
  have mr:IntKind.i64.wrap ((K.vars:Int)-2)=(K.vars:Int)-2:=IntWalk.i64_in _ (by omega)
  by_cases h1:(K.vars:Int)-2<l
  ·have AY:decide ((K.vars:Int)-2<l)=true:=by simpa using h1
   go_enter Tryz.func29,Tryz.ntmps29
   go_wp2_with fail;go_ret;exact ⟨1,K,T,q,rfl,HK.out,af.refl _ _,Sub.refl _ _,.inl ⟨rfl,.inr h1,rfl⟩⟩
  ·have AY:decide ((K.vars:Int)-2<l)=false:=by simpa using h1
   obtain ⟨n,rfl⟩ : ∃ n:Nat,l=(n:Int):=⟨l.toNat,by omega⟩;have HT:=Lib.hid (Gq b n K T q w HK.out (by omega))
   go_enter Tryz.func29,Tryz.ntmps29
   go_wp2_with fail;refine HT.out.mono ?_;rintro e w1 hE;obtain ⟨C,N,hC,hN,Gg⟩:=hE.ex;have BQ:=Lib.hid (And.intro hC hN);clear hE hC hN HT c4
   rcases Gg with ⟨rfl,CW,hu⟩ | ⟨rfl,dS,K1,T1,q1,hx,Y2,xC,hu,hs⟩
   ·have HE:Hid (aaT b K n q w (.returned (.int .i64 9)) w1):=⟨9,K,T,q,rfl,HK.out.upd hu (by simp),hu.mono (by simp),Sub.refl _ _,.inr ⟨n,rfl,by omega,C,N,BQ.out.1,BQ.out.2,.inl ⟨rfl,CW,rfl⟩⟩⟩
    clear CW hu;go_wp2_with fail;go_ret;exact HE.out
   ·have hm:=xC.mem
    have aC:=hm.ts;have yQ:K1.trail=K.trail:=hx.tr;rw [yQ] at aC;obtain ⟨fa,fc,oG,_⟩:=aj aC
    have Jl:w1.cell? ⟨b,7,none⟩=some (.slice fa K.trail.length fc):=by rw [show Value.slice fa K.trail.length fc=q1.tv from oG.symm];exact ae hm.blk rfl
    rw [oG] at aC;have bF:Hid (w1.ownsRow 0 3 1 (.slice fa K.trail.length fc) K.trail.length (aQ K.trail)):=aC;have Jb:=Lib.hid oG;have HM:=Lib.hid (And.intro hm (And.intro hu (And.intro hs (And.intro hx (And.intro Y2 (And.intro xC.ti xC.ok))))));have mO:=ah hm.blk
    have mg:Hid (∀ u,u∈[Value.int .i64 n]->u.oneCell'=true):=by intro u hu;simp at hu;subst hu;rfl
    clear hm hu hs hx Y2 xC aC oG
    go_wp2_with (at_builtin;go_must (refine wpList_append_lies _ rfl (.tmp 29) (.tmp 31) 23 rfl 0 3 ti _ 1 8 Tryz.underlying23 HI.out.1 HI.out.2.1 HI.out.2.2.1 HI.out.2.2.2 (by rfl) (by decide) _ K.trail.length (aQ K.trail) rfl (bF.out.alloc _) ⟨w1.heap.size,0,none⟩ 1 1 [.int .i64 n] rfl rfl ?c1 mg.out (by omega) (by unfold maxLen;omega) (by omega) (by omega) _ rfl ?_))
    case c1=>exact World.news_of_block (heap_alloc_new w1 (.cells #[.int .i64 n] 3 (0,0)))
    intro g5 cap w5 aK dh bI kF
    have xE:(Value.slice fa K.trail.length fc).ownBlock=some g5\/g5=w1.heap.size+1:=bI
    have xY:w5.heap[b]?=w1.heap[b]?:=by
     have hne:some b≠(Value.slice fa K.trail.length fc).ownBlock:=by
      intro e
      have e1:=HM.out.1.ob;have e2:=HM.out.1.ox b (by rw [Jb.out];exact e.symm);omega
     rw [dh.block b (by rw [World.size_alloc];omega) hne,Below.heap_alloc _ _ _ mO]
    rw [HM.out.1.blk] at xY;have fz:w5.frozen? ⟨b,7,none⟩=false:=ax 7 xY;have c57:w5.cell? ⟨b,7,none⟩=some q1.tv:=ae xY rfl
    have HE:Hid (∃ q',aF (w5.setCell ⟨b,7,none⟩ (.slice (some ⟨g5,0,none⟩) (K.trail.length+1) cap)) b (K1.dX n) T1 q'/\af (q.all b) w (w5.setCell ⟨b,7,none⟩ (.slice (some ⟨g5,0,none⟩) (K.trail.length+1) cap))/\Sub (q.all b) w (q'.all b)):=by
     have m:=HM.out.1.QN (g5:=g5) (cap:=cap) (l:=n) (by rw [Jb.out];exact dh) (by rw [Jb.out];exact xE) (by rw [yQ];exact aK);rw [yQ] at m;refine ⟨_,by unfold KV.dX;rw [yQ];exact m,?_,fun k hk=>?_⟩
     ·have yO:b∈q.all b:=aA.mem.2 (.inl rfl)
      have u5:af (q.all b) w w5:=(HM.out.2.1.alloc (.cells #[.int .i64 n] 3 (0,0))).grown dh fun k hk=>HM.out.2.2.1 k (aA.mem.2 (.inr (.inr (.inr (.inr (.inr (.inr (.inr (by rw [Jb.out];exact hk)))))))))
      exact u5.setCell (p:=⟨b,7,none⟩) (.inl yO) _
     ·have old:∀ k,k∈q1.all b->k∈q.all b\/w.heap.size<=k:=HM.out.2.2.1
      simp only [aA.mem] at hk
      rcases hk with hk | hk | hk | hk | hk | hk | hk | hk
      ·exact old k (aA.mem.2 (.inl hk))
      ·exact old k (aA.mem.2 (.inr (.inl hk)))
      ·exact old k (aA.mem.2 (.inr (.inr (.inl hk))))
      ·exact old k (aA.mem.2 (.inr (.inr (.inr (.inl hk)))))
      ·exact old k (aA.mem.2 (.inr (.inr (.inr (.inr (.inl hk))))))
      ·exact old k (aA.mem.2 (.inr (.inr (.inr (.inr (.inr (.inl hk)))))))
      ·exact old k (aA.mem.2 (.inr (.inr (.inr (.inr (.inr (.inr (.inl hk))))))))
      ·simp [Value.ownBlock] at hk;subst hk
       rcases xE with e | e
       ·exact old _ (aA.mem.2 (.inr (.inr (.inr (.inr (.inr (.inr (.inr (by rw [Jb.out];exact e)))))))))
       ·have:=HM.out.2.1.size;right;omega
    clear aK dh bI xE kF xY Jl;go_wp2_with fail;go_ret;obtain ⟨q',m,u,s⟩:=HE.out;exact ⟨0,K1.dX n,T1,q',rfl,⟨m,HM.out.2.2.2.2.2.1.same rfl rfl,HM.out.2.2.2.2.2.2.dX (by rw [HM.out.2.2.2.1.vr];omega)⟩,u,s,.inr ⟨n,rfl,by omega,C,N,BQ.out.1,BQ.out.2,.inr ⟨rfl,dS,K1,HM.out.2.2.2.1,HM.out.2.2.2.2.1,rfl⟩⟩⟩
theorem aF.VT {w:World} {b g n c:Nat} {K:KV} {T:List DM} {q:aA} (h:aF w b K T q) (hq:q.tv=.slice (some ⟨g,0,none⟩) n c) :
  aF (w.setCell ⟨b,7,none⟩ (.slice (some ⟨g,0,none⟩) (K.trail.length-1) c)) b K.IC T { q with tv:=.slice (some ⟨g,0,none⟩) (K.trail.length-1) c }:=by
 have hne:∀ {k c},q.o k=c->c≠0->k≠b:=fun {k c} hk hc hm=>hc (by rw [<- hk,hm,h.ob])
 have hk:∀ {k c:Nat} {v:Value},q.o k=c->c≠0->(w.setCell ⟨b,7,none⟩ v).heap[k]?=w.heap[k]?:=fun hk hc=>aG (hne hk hc)
 have Yn:=h.ts;rw [hq] at Yn;have hg:q.o g=7:=h.ox g (by rw [hq];rfl)
 refine ⟨by rw [aB h.blk];rfl,h.ar.keep fun k hm=>hk (h.oa k hm) (by omega),h.tab.keep fun k hm=>hk (h.ot k hm) (by omega),ai h.us fun k hm=>hk (h.ou k hm) (by omega),
  ai h.hs fun k hm=>hk (h.oh k hm) (by omega),ai h.os fun k hm=>hk (h.oo k hm) (by omega),ai h.ls fun k hm=>hk (h.ol k hm) (by omega),?_,
  h.ob,h.oa,h.ot,h.ou,h.oh,h.oo,h.ol,fun k hk=>by simp [Value.ownBlock] at hk;subst hk;exact hg⟩
 have e:K.IC.trail.length=K.trail.length-1:=by show K.trail.dropLast.length=_;rw [List.length_dropLast]
 rw [e];have ht:=Bq Yn (m:=K.trail.length-1) (by omega)
 have e2:aQ K.IC.trail=(aQ K.trail).take ((K.trail.length-1)*1):=by
  show aQ K.trail.dropLast=_
  rw [List.dropLast_eq_take,Nat.mul_one];simp [aQ,List.map_take]
 rw [e2];exact bf ht (a:=⟨b,7,none⟩) (by simp [Value.ownBlock];exact fun e=>(hne hg (by omega)) e.symm) _
structure VU (b:Nat) (K:KV) (q:aA) (w:World) (e:Ending) (w':World):Prop where
  ex:∃ (K':KV) (T':List DM) (q':aA),bV w' b K' T' q'∧af (q.all b) w w'∧Sub (q.all b) w (q'.all b) ∧
    ((K.trail=[]∧e=.returned (.tuple #[.int .i64 0,.int .i64 10])∧K'=K) ∨
     (K.trail≠[]∧e=.returned (.tuple #[.int .i64 (K.trail.getLastD 0:Nat),.int .i64 0])∧∃ K1,xK K (K.trail.getLastD 0) K1∧K'=K1.IC))
theorem Y4 {t:List Nat} (h:t≠[]):t[t.length-1]?=some (t.getLastD 0):=by
 rw [<- List.getLast?_eq_getElem?,List.getLastD_eq_getLast?,List.getLast?_eq_some_getLast h];rfl
theorem Gs (b:Nat) (K:KV) (T:List DM) (q:aA) (w:World) (h:bV w b K T q) (qG:K.trail.length<=1000000)
  (dS:K.trail≠[]->∀ (C:List bY) (N:List (Nat × Nat)),dU K (K.trail.getLastD 0) (K.order.getD (K.trail.getLastD 0) 0) (K.order.getD (K.trail.getLastD 0+1) 0) C->lZ K (K.order.getD (K.trail.getLastD 0) 0) (C.flatMap bY.qs) N->K.A.used+N.length<=K.A.places) :
  Calls Tryz.prog 68 #[.pointer (some ⟨b,0,none⟩)] w fun e w'=>VU b K q w e w':=by
 have aC:=h.mem.ts;have HK:=Lib.hid h;obtain ⟨fa,fc,oG,zS⟩:=aj aC
 have c7:w.cell? ⟨b,7,none⟩=some (.slice fa K.trail.length fc):=by rw [<- oG];exact ae h.mem.blk rfl
 have Jb:=Lib.hid oG;rw [oG] at aC;have XB:=Lib.hid dS;clear h oG dS
 by_cases hn:K.trail=[]
 ·have yu:K.trail.length=0:=by rw [hn];rfl
  have HE:Hid (VU b K q w (.returned (.tuple #[.int .i64 0,.int .i64 10])) w):=⟨K,T,q,HK.out,af.refl _ _,Sub.refl _ _,.inl ⟨hn,rfl,rfl⟩⟩;rw [yu] at c7;clear aC zS hn
  go_enter Tryz.func68,Tryz.ntmps68
  go_wp2_with fail;go_ret2;exact HE.out
 ·obtain ⟨k,hk⟩ : ∃ k,K.trail.length=k+1:=⟨K.trail.length-1,by have:=List.length_pos_iff.2 hn;omega⟩
  obtain ⟨g,rfl⟩ : ∃ g,fa=some ⟨g,0,none⟩:=by
   rcases zS with ⟨_,h0,_⟩ | h
   ·omega
   ·exact h
  obtain ⟨l,hl⟩ : ∃ l,K.trail.getLastD 0=l:=⟨_,rfl⟩;have bI:=Y4 hn;rw [hl,hk] at bI;have cl:w.cell? ⟨g,k,none⟩=some (.int .i64 l):=au aC (by simp [aQ];exact ⟨l,bI,rfl⟩);have Ff:l+2<=K.vars:=HK.out.ok.tl l (List.mem_of_getElem? bI);have HT:=Lib.hid (Gq b l K T q w HK.out Ff);have HL:=Lib.hid hl;have HN:=Lib.hid hn;have SY:=Lib.hid hk;rw [hk] at c7 qG;clear aC zS bI hl hn hk
  go_enter Tryz.func68,Tryz.ntmps68
  go_wp2_with fail;refine HT.out.mono ?_;rintro e w1 hE;obtain ⟨C,N,hC,hN,Gg⟩:=hE.ex;have hrm:=XB.out HN.out;rw [HL.out] at hrm;have alh:=hrm C N hC hN
  rcases Gg with ⟨_,CW,_⟩ | ⟨rfl,dS,K1,T1,q1,hx,_,xC,hu,hs⟩
  ·omega
  ·have yQ:K1.trail=K.trail:=hx.tr
   have aC:=xC.mem.ts;obtain ⟨fa,fc2,oG,zS⟩:=aj aC
   obtain ⟨g2,rfl⟩ : ∃ g,fa=some ⟨g,0,none⟩:=by
    rcases zS with ⟨_,h0,_⟩ | h
    ·rw [yQ,SY.out] at h0;omega
    ·exact h
   have BC:k+1<=fc2:=by have:=(kK (oG ▸ aC)).2.1;rw [yQ,SY.out] at this;exact this
   have b7:w1.cell? ⟨b,7,none⟩=some (.slice (some ⟨g2,0,none⟩) (k+1) fc2):=by
    have:=ae (j:=7) xC.mem.blk (v:=q1.tv) rfl;rw [this,oG,yQ,SY.out]
   have fz:w1.frozen? ⟨b,7,none⟩=false:=ax 7 xC.mem.blk;have m:=xC.mem.VT oG;rw [yQ,SY.out,Nat.add_sub_cancel] at m
   have HE:Hid (VU b K q w (.returned (.tuple #[.int .i64 l,.int .i64 0])) (w1.setCell ⟨b,7,none⟩ (.slice (some ⟨g2,0,none⟩) k fc2))):=by
    refine ⟨K1.IC,T1,_,⟨m,xC.ti.same rfl rfl,xC.ok.IC⟩,hu.setCell (p:=⟨b,7,none⟩) (.inl (aA.mem.2 (.inl rfl))) _,fun j hj=>hs j ?_,.inr ⟨HN.out,by rw [HL.out],K1,by rw [HL.out];exact hx,rfl⟩⟩
    simp only [aA.mem] at hj ⊢
    rcases hj with hj | hj | hj | hj | hj | hj | hj | hj
    ·exact .inl hj
    ·exact .inr (.inl hj)
    ·exact .inr (.inr (.inl hj))
    ·exact .inr (.inr (.inr (.inl hj)))
    ·exact .inr (.inr (.inr (.inr (.inl hj))))
    ·exact .inr (.inr (.inr (.inr (.inr (.inl hj)))))
    ·exact .inr (.inr (.inr (.inr (.inr (.inr (.inl hj))))))
    ·exact .inr (.inr (.inr (.inr (.inr (.inr (.inr (by rw [oG];exact hj)))))))
   clear hE hC hN hrm alh dS hx xC hu hs yQ aC oG zS m HT XB;go_wp2_with fail;go_ret2;exact HE.out
end Go.Proofs.YtfkopmhpppeheaaGreat
namespace Go.Proofs.YtfkopmhpppeheaaGreat
theorem NU {o o':List Nat} (h:∀ v,v∈o↔v∈o') (a y:Nat->Bool):jH o a y=jH o' a y:=by
 funext v
 simp only [jH,h]
theorem iQ {o:List Nat} {l:Nat} (hl:l+1<o.length) (i:Nat):(bM o l)[i]?=if i=l+1 then some (o.getD l 0) else if i=l then some (o.getD (l+1) 0) else o[i]?:=by
 unfold bM
 by_cases e1:i=l+1
 ·subst e1;rw [List.getElem?_set_self (by simpa using hl),if_pos rfl]
 ·rw [List.getElem?_set_ne (Ne.symm e1),if_neg e1]
  by_cases e2:i=l
  ·subst e2;rw [List.getElem?_set_self (by omega),if_pos rfl]
  ·rw [List.getElem?_set_ne (Ne.symm e2),if_neg e2]
theorem pI {o:List Nat} {l i:Nat} (hi:i<=l):(bM o l).take i=o.take i:=by
 unfold bM;rw [List.take_set_of_le (by omega),List.take_set_of_le (by omega)]
theorem zT {o:List Nat} {i v:Nat}:v∈o.take i↔∃ j,j<i/\o[j]?=some v:=by
 constructor
 ·intro h
  obtain ⟨j,hj⟩:=List.getElem?_of_mem h;rw [List.getElem?_take] at hj
  split at hj
  ·rename_i h1;exact ⟨j,h1,hj⟩
  ·cases hj
 ·rintro ⟨j,h1,h2⟩
  exact List.mem_of_getElem? (i:=j) (by rw [List.getElem?_take,if_pos h1];exact h2)
theorem qV {o:List Nat} {j:Nat} (h:j<o.length):o[j]?=some (o.getD j 0):=by
 rw [List.getD_eq_getElem?_getD,List.getElem?_eq_getElem h];rfl
theorem ET {o:List Nat} {l i:Nat} (hl:l+1<o.length) (hi:l+2<=i) (v:Nat):v∈(bM o l).take i↔v∈o.take i:=by
 rw [zT,zT];have a0:=qV (o:=o) (j:=l) (by omega);have a1:=qV hl;constructor
 ·rintro ⟨j,h1,h2⟩
  rw [iQ hl] at h2
  by_cases e1:j=l+1
  ·rw [if_pos e1] at h2;cases h2;exact ⟨l,by omega,a0⟩
  ·by_cases e2:j=l
   ·rw [if_neg e1,if_pos e2] at h2;cases h2;exact ⟨l+1,by omega,a1⟩
   ·rw [if_neg e1,if_neg e2] at h2;exact ⟨j,h1,h2⟩
 ·rintro ⟨j,h1,h2⟩
  by_cases e1:j=l+1
  ·subst e1;rw [a1] at h2;cases h2
   exact ⟨l,by omega,by rw [iQ hl,if_neg (by omega),if_pos rfl]⟩
  ·by_cases e2:j=l
   ·subst e2;rw [a0] at h2;cases h2
    exact ⟨j+1,by omega,by rw [iQ hl,if_pos rfl]⟩
   ·exact ⟨j,h1,by rw [iQ hl,if_neg e1,if_neg e2];exact h2⟩
theorem lD {g:(Nat->Bool)->Bool} {v:Nat} (h:¬ jI g v) (z:Nat->Bool) (b:Bool):g (upd z v b)=g z:=by
 have e1:∀ b c,g (upd z v b)=g (upd z v c):=fun b c=>by
  have:g (upd z v true)=g (upd z v false):=Classical.byContradiction fun e=>h ⟨z,e⟩
  cases b <;> cases c <;> simp_all
 rw [e1 b (z v),yL]
def J9 (K:KV) (x:Nat) (q:Nat × Nat):TV:=rU K.vars fun w=>if w.testBit x then K.den q.2 fun v=>w.testBit v else K.den q.1 fun v=>w.testBit v
theorem oM {K:KV} (hk:K.Ok) {x:Nat} (hx:x<K.vars) {q:Nat × Nat} (h1:K.A.tk q.1=true) (h2:K.A.tk q.2=true) (y:Nat->Bool):(J9 K x q).fn y=if y x then K.den q.2 y else K.den q.1 y:=by
 unfold J9;rw [yG,jg]
 have e:∀ {r:Nat},K.A.tk r=true->(K.den r fun v=>(idx K.vars y).testBit v)=K.den r y:=fun hr=>hk.OW hr fun v hv=>by rw [jg];simp [hv]
 rw [e h1,e h2];simp [hx]
theorem Nb.pair {K:KV} {l x y:Nat} (nb:Nb K l x y) {a d r:Nat} (ha:Deep K l a) (hd:Deep K l d) (hne:a≠d) (h2:2<=r) (ht:K.A.tk r=true) (he:∀ z,K.den r z=if z x then K.den d z else K.den a z):K.nR x a d:=by
 obtain ⟨hx,hy,lx,ly,nZ⟩:=nb.facts;obtain ⟨p,v,hp,aH,hv,gK,t1,t2,vT⟩:=nb.ok.wf.cZ h2 ht
 have wZ:p.var.toNat=v:=by omega
 obtain ⟨v',hv',Xp,hh,bK⟩:=nb.ok.gI nb.un h2 ht;have evv:v'=v:=nb.ok.ord.pm.inj hv' gK (by omega);subst evv
 have ev:v'=x:=by
  refine Classical.byContradiction fun Y5=>?_
  have Px:¬ K.lev x<K.lev v':=fun aW=>by
   refine bK x hx aW ?_
   refine Classical.byContradiction fun hnx=>hne (KV.canon nb.ok.wf nb.ok.ord nb.un _ _ _ ha.1 hd.1 (Nat.le_refl _) fun z=>?_)
   have e1:=lD hnx z true;have e2:=lD hnx z false;have e3:=e1.trans e2.symm;rw [he,he,bD,bD,(nb.aO hd z true).1,(nb.aO ha z false).1] at e3
   simpa using e3.symm
  have aW:K.lev v'<K.lev x:=by
   have:K.lev v'≠K.lev x:=fun e=>Y5 (nb.ok.ord.pm.inj gK hx e)
   omega
  obtain ⟨z,hz⟩:=hh;refine hz ?_;have a2:=ha.2;have d2:=hd.2;rw [he,he,ig z true (Ne.symm Y5),ig z false (Ne.symm Y5),KV.dF nb.ok.wf nb.ok.ord ha.1 gK (by omega),KV.dF nb.ok.wf nb.ok.ord ha.1 gK (by omega),KV.dF nb.ok.wf nb.ok.ord hd.1 gK (by omega),KV.dF nb.ok.wf nb.ok.ord hd.1 gK (by omega)]
 subst ev
 have g0:=fun z=>KV.kQ nb.ok.wf nb.ok.ord h2 hp aH z
 have g1:=fun z=>KV.kP nb.ok.wf nb.ok.ord h2 hp aH z
 rw [wZ] at g0 g1;refine ⟨r,p,h2,hp,aH,hv,KV.canon nb.ok.wf nb.ok.ord nb.un _ _ _ t1 ha.1 (Nat.le_refl _) fun z=>?_,KV.canon nb.ok.wf nb.ok.ord nb.un _ _ _ t2 hd.1 (Nat.le_refl _) fun z=>?_⟩
 ·rw [<- g0,he,bD,(nb.aO ha z false).1];rfl
 ·rw [<- g1,he,bD,(nb.aO hd z true).1];rfl
theorem NV {K:KV} {l x y:Nat} (nb:Nb K l x y) {q:Nat × Nat} (h1:Deep K l q.1) (h2:Deep K l q.2) (hne:q.1≠q.2):jI (J9 K x q).fn x:=by
 obtain ⟨hx,_⟩:=nb.facts
 refine Classical.byContradiction fun hnx=>hne (KV.canon nb.ok.wf nb.ok.ord nb.un _ _ _ h1.1 h2.1 (Nat.le_refl _) fun z=>?_)
 have e1:=lD hnx z true;have e2:=lD hnx z false;have e3:=e1.trans e2.symm;rw [oM nb.ok hx h1.1 h2.1,oM nb.ok hx h1.1 h2.1,bD,bD,(nb.aO h2 z true).1,(nb.aO h1 z false).1] at e3
 simpa using e3.symm
theorem uf.turned {K:KV} {M:MV} {l x y:Nat} {C:List bY} {N:List (Nat × Nat)} (h:uf K M) (nb:Nb K l x y) (hn:K.vars<=16) (CA:dU K l x y C) (F:lZ K x (C.flatMap bY.qs) N) (u:TV) :
  (u∈iy M.tabs (bM K.order l)->(∃ r,2<=r/\K.A.tk r=true/\K.tab r=u)\/∃ q,q∈N/\J9 K x q=u)/\(∀ q,q∈N->J9 K x q∈iy M.tabs (bM K.order l)):=by
 obtain ⟨hx,hy,lx,ly,nZ⟩:=nb.facts;have hk:=nb.ok;have hu:=nb.un;have pm:=hk.ord.pm;have hl:=nb.hl;have ol:=pm.ol
 have uG:l+1<K.order.length:=by omega
 have hL:∀ t,t∈M.tabs->t.Ok/\t.n=K.vars:=h.roots.ok
 have ho:∀ v,v∈K.order->v<K.vars:=fun v hv=>pm.mP hv
 have Sr:∀ v,v∈bM K.order l->v<K.vars:=fun v hv=>ho v (yN uG hv)
 have a0:K.order[l]?=some x:=by rw [<- nb.hx];exact qV (by omega)
 have a1:K.order[l+1]?=some y:=by rw [<- nb.hy];exact qV uG
 have old:∀ u,u∈iy M.tabs K.order->∃ r,2<=r/\K.A.tk r=true/\K.tab r=u:=fun u jy=>by
  have jE:=jy;rw [<- h.same.od] at jE;exact (h.mem hk hu hn).1 jE
 have tk1:∀ v,v∈K.order.take (l+1)↔v∈K.order.take l\/v=x:=fun v=>by
  rw [List.take_add_one,a0];simp
 have tk2:∀ v,v∈(bM K.order l).take (l+1)↔v∈K.order.take l\/v=y:=fun v=>by
  rw [List.take_add_one,pI (Nat.le_refl _),iQ uG,if_neg (by omega),if_pos rfl,nb.hy];simp
 have nx:x∉K.order.take l:=fun hm=>by have:=(pm.jX.1 hm).2;omega
 have ny:y∉K.order.take l:=fun hm=>by have:=(pm.jX.1 hm).2;omega
 have mx:∀ (a z:Nat->Bool) (b:Bool),jH (K.order.take (l+1)) (upd a x b) z=jH (K.order.take l) a (upd z x b):=fun a z b=>by
  funext v
  simp only [jH,tk1,upd]
  by_cases e:v=x
  ·subst e;simp [nx]
  ·simp [e]
 have my:∀ (a z:Nat->Bool),jH ((bM K.order l).take (l+1)) a z=jH (K.order.take l) a (upd z y (a y)):=fun a z=>by
  funext v
  simp only [jH,tk2,upd]
  by_cases e:v=y
  ·subst e;simp [ny]
  ·simp [e]
 refine ⟨fun hm=>?_,fun q hq=>?_⟩
 ·obtain ⟨i,v,hi,uok,un,⟨t,ht,a,he⟩,hh⟩:=(jh hL Sr).1 hm
  rw [iQ uG] at hi
  by_cases e1:i=l+1
  ·subst e1
   rw [if_pos rfl,nb.hx] at hi
   obtain rfl:x=v:=by simpa using hi
   obtain ⟨g,hg⟩ : ∃ g:(Nat->Bool)->Bool,∀ z,g z=t.fn (jH (K.order.take l) a z):=⟨_,fun _=>rfl⟩
   have hug:∀ z,u.fn z=g (upd z y (a y)):=fun z=>by rw [he,my,hg]
   have hgx:jI g x:=by
    refine Classical.byContradiction fun hnx=>?_
    obtain ⟨z,hz⟩:=hh;refine hz ?_
    have ec:∀ b,upd (upd z x b) y (a y)=upd (upd z y (a y)) x b:=fun b=>by
     funext w;simp only [upd]
     by_cases e1:w=y
     ·subst e1;simp [Ne.symm nZ]
     ·simp [e1]
    rw [hug,hug,ec,ec,lD hnx,lD hnx]
   have FD:∀ z,(rU K.vars fun w=>g fun v=>w.testBit v).fn z=g z:=fun z=>by
    rw [yG,hg,hg]
    refine TV.AU t fun v hv=>?_
    simp only [jH]
    split
    ·rfl
    ·rw [jg];rw [(hL t ht).2] at hv;simp [hv]
   obtain ⟨r,r2,rt,alm⟩:=old (rU K.vars fun w=>g fun v=>w.testBit v) ((jh hL ho).2 ⟨l,x,a0,nC _ hn,rfl,⟨t,ht,a,fun z=>by rw [FD,hg]⟩,by
    obtain ⟨z,hz⟩:=hgx
    exact ⟨z,by rw [FD,FD];exact hz⟩⟩)
   have Ei:∀ z,K.den r z=g z:=fun z=>by rw [<- hk.pg rt,alm,FD]
   have hur:∀ z,u.fn z=K.den r (upd z y (a y)):=fun z=>by rw [hug,Ei]
   obtain ⟨p,v,hp,aH,hv,gK,t1,t2,vT⟩:=hk.wf.cZ r2 rt
   by_cases oz:K.gZ x y r
   ·obtain ⟨c,hc,rfl⟩:=List.mem_map.1 (CA.all r oz)
    obtain ⟨p',_,_,_,_,_,F4⟩:=(CA.ok c hc).at_
    have hq:∃ q,q∈bY.qs c/\∀ z,u.fn z=if z x then K.den q.2 z else K.den q.1 z:=by
     cases hb:a y with
     | false =>
      refine ⟨(c.a00,c.a10),by simp [bY.qs],fun z=>?_⟩
      rw [hur,hb,F4.den,bD,ig z false nZ,(nb.aO F4.d10 z false).2,(nb.aO F4.d00 z false).2];rfl
     | true =>
      refine ⟨(c.a01,c.a11),by simp [bY.qs],fun z=>?_⟩
      rw [hur,hb,F4.den,bD,ig z true nZ,(nb.aO F4.d11 z true).2,(nb.aO F4.d01 z true).2];rfl
    obtain ⟨q,hq,hqe⟩:=hq;have PH:q∈C.flatMap bY.qs:=List.mem_flatMap.2 ⟨c,hc,hq⟩;obtain ⟨d1,d2⟩:=CA.deep PH
    have xZ:q.1≠q.2:=fun e=>by
     obtain ⟨z,hz⟩:=hh;refine hz ?_
     rw [hqe,hqe,e,(nb.aO d2 z true).1,(nb.aO d2 z false).1];simp
    by_cases h3:K.nR x q.1 q.2
    ·left
     obtain ⟨s,ps,s2,hps,agj,hsv,e1,e2⟩:=h3;have st:K.A.tk s=true:=ag.aP.2 ⟨ps,hps,agj⟩;refine ⟨s,s2,st,hk.tab_eq hn st uok un fun z=>?_⟩;rw [hqe,KV.dD hk.wf hk.ord s2 hps agj,show ps.var.toNat=x by omega,e1,e2]
    ·right
     refine ⟨q,(F.iff q).2 ⟨PH,xZ,h3⟩,TV.yE (nC _ hn) uok un.symm fun z=>?_⟩;rw [oM hk hx d1.1 d2.1,hqe]
   ·-- no crossing: it does not hang on y
    left;refine ⟨r,r2,rt,hk.tab_eq hn rt uok un fun z=>?_⟩;rw [hur]
    have hvx:v=x:=by
     have h5:K.lev v<=l:=by
      rw [<- vT]
      refine Classical.byContradiction fun h6=>?_
      obtain ⟨z,hz⟩:=hgx;refine hz ?_;rw [<- Ei,<- Ei,KV.dF hk.wf hk.ord rt hx (by omega),KV.dF hk.wf hk.ord rt hx (by omega)]
     have h6:¬ K.lev v<l:=fun h6=>by
      obtain ⟨v',hv',Xp,⟨z,hz⟩,_⟩:=hk.gI hu r2 rt;have evv:v'=v:=pm.inj hv' gK (by omega);subst evv;refine hz ?_;rw [Ei,Ei,hg,hg]
      congr 1
      funext w
      simp only [jH,upd]
      by_cases ew:w=v'
      ·subst ew;rw [if_pos (pm.jX.2 ⟨gK,h6⟩),if_pos (pm.jX.2 ⟨gK,h6⟩)]
      ·simp [ew]
     exact pm.inj gK hx (by omega)
    subst hvx
    have k1:K.vI p.lo≠(y:Int):=fun e=>oz ⟨r2,p,hp,aH,hv,.inl e⟩
    have k2:K.vI p.hi≠(y:Int):=fun e=>oz ⟨r2,p,hp,aH,hv,.inr e⟩
    have hb:=hk.ord.below hk.wf r2 hp aH;have g1:=nb.kid t1 (by omega) k1;have g2:=nb.kid t2 (by omega) k2;rw [KV.dD hk.wf hk.ord r2 hp aH,KV.dD hk.wf hk.ord r2 hp aH,show p.var.toNat=v by omega,ig z _ nZ,(nb.aO g1 z _).2,(nb.aO g2 z _).2]
  ·rw [if_neg e1] at hi
   by_cases e2:i=l
   ·subst e2
    rw [if_pos rfl,nb.hy] at hi
    obtain rfl:y=v:=by simpa using hi
    rw [pI (Nat.le_refl _)] at he;left;refine old u ?_
    by_cases NM:jI u.fn x
    ·exact (jh hL ho).2 ⟨i,x,a0,uok,un,⟨t,ht,a,he⟩,NM⟩
    ·refine (jh hL ho).2 ⟨i+1,y,a1,uok,un,⟨t,ht,upd a x false,fun z=>?_⟩,hh⟩
     rw [mx,<- he,lD NM]
   ·rw [if_neg e2] at hi
    left;refine old u ((jh hL ho).2 ⟨i,v,hi,uok,un,⟨t,ht,a,fun z=>?_⟩,hh⟩);rw [he]
    congr 1
    rcases Nat.lt_or_ge i l with h5 | h5
    ·rw [pI (by omega)]
    ·exact NU (ET uG (by omega)) a z
 ·obtain ⟨PH,xZ,_⟩:=(F.iff q).1 hq
  obtain ⟨d1,d2⟩:=CA.deep PH;obtain ⟨c,hc,hm⟩:=List.mem_flatMap.1 PH;obtain ⟨p,hp,aH,hv,_,_,F4⟩:=(CA.ok c hc).at_;have c2:2<=c.r:=(CA.ok c hc).cr.1;have ct:K.A.tk c.r=true:=ag.aP.2 ⟨p,hp,aH⟩
  have vS:K.tab c.r∈iy M.tabs K.order:=by
   have:=(h.mem hk hu hn).2 ⟨c.r,c2,ct,rfl⟩
   rw [<- h.same.od];exact this
  obtain ⟨i,v,hi,_,_,⟨t,ht,a,he⟩,hh⟩:=(jh hL ho).1 vS
  have pR:∀ z,K.den c.r z=t.fn (jH (K.order.take i) a z):=fun z=>by rw [<- hk.pg ct,he]
  have hio:=pm.lU hi
  have Qd:K.dep c.r=l:=by rw [nb.kW hp hv];exact lx
  have fF:i=l:=by
   have hx':jI (K.den c.r) x:=by
    obtain ⟨v',hv',Xp,Xq,_⟩:=hk.gI hu c2 ct;have:v'=x:=pm.inj hv' hx (by omega)
    subst this;exact Xq
   have h5:i<=l:=by
    refine Classical.byContradiction fun h6=>?_
    obtain ⟨z,hz⟩:=hx';refine hz ?_;rw [pR,pR]
    congr 1
    funext w
    simp only [jH,upd]
    by_cases ew:w=x
    ·subst ew;rw [if_pos (pm.jX.2 ⟨hx,by omega⟩),if_pos (pm.jX.2 ⟨hx,by omega⟩)]
    ·simp [ew]
   have h6:¬ i<l:=fun h6=>by
    obtain ⟨z,hz⟩:=hh;refine hz ?_;rw [hk.pg ct,hk.pg ct,KV.dF hk.wf hk.ord ct hio.1 (by omega),KV.dF hk.wf hk.ord ct hio.1 (by omega)]
   omega
  subst fF
  have hb:∃ b,∀ z,(J9 K x q).fn z=K.den c.r (upd z y b):=by
   simp only [bY.qs,List.mem_cons,List.not_mem_nil,or_false] at hm
   rcases hm with rfl | rfl
   ·refine ⟨false,fun z=>?_⟩
    rw [oM hk hx d1.1 d2.1,F4.den,bD,ig z false nZ,(nb.aO F4.d10 z false).2,(nb.aO F4.d00 z false).2];rfl
   ·refine ⟨true,fun z=>?_⟩
    rw [oM hk hx d1.1 d2.1,F4.den,bD,ig z true nZ,(nb.aO F4.d11 z true).2,(nb.aO F4.d01 z true).2];rfl
  obtain ⟨b,hb⟩:=hb;refine (jh hL Sr).2 ⟨i+1,x,by rw [iQ uG,if_pos rfl,nb.hx],nC _ hn,rfl,⟨t,ht,upd a y b,fun z=>?_⟩,NV nb d1 d2 xZ⟩;rw [hb,pR,my,bD]
  congr 1
  funext w
  simp only [jH,upd]
  by_cases ew:w=y
  ·subst ew;simp [ny]
  ·simp [ew]
theorem uf.U {K:KV} {M:MV} {l x y:Nat} {C:List bY} {N:List (Nat × Nat)} (h:uf K M) (nb:Nb K l x y) (hn:K.vars<=16) (CA:dU K l x y C) (F:lZ K x (C.flatMap bY.qs) N):M.U l+2=K.A.used+N.length:=by
 obtain ⟨hx,hy,lx,ly,nZ⟩:=nb.facts;have hk:=nb.ok;have hu:=nb.un
 have nt:∀ q,q∈N->Deep K l q.1/\Deep K l q.2/\q.1≠q.2/\¬ K.nR x q.1 q.2:=fun q hq=>by
  obtain ⟨h1,h2,h3⟩:=(F.iff q).1 hq;exact ⟨(CA.deep h1).1,(CA.deep h1).2,h2,h3⟩
 have vS:∀ u,u∈bz (M.lev.flatten++(iJ (bz M.tabs) (bM M.order l)).flatten)↔u∈K.nodes.map K.tab++N.map (J9 K x):=fun u=>by
  rw [gp,List.mem_append,List.mem_append,List.mem_map,List.mem_map];have ht:=h.turned nb hn CA F u
  have e1:u∈(iJ (bz M.tabs) (bM M.order l)).flatten↔u∈iy M.tabs (bM K.order l):=by rw [h.same.od];rfl
  rw [e1];constructor
  ·rintro (hm | hm)
   ·obtain ⟨r,h1,h2,h3⟩:=(h.mem hk hu hn).1 hm
    exact .inl ⟨r,KV.bP.2 ⟨h1,h2⟩,h3⟩
   ·rcases ht.1 hm with ⟨r,h1,h2,h3⟩ | h1
    ·exact .inl ⟨r,KV.bP.2 ⟨h1,h2⟩,h3⟩
    ·exact .inr h1
  ·rintro (⟨r,h1,h2⟩ | ⟨q,h1,h2⟩)
   ·obtain ⟨a,b⟩:=KV.bP.1 h1
    exact .inl ((h.mem hk hu hn).2 ⟨r,a,b,h2⟩)
   ·right;rw [<- h2];exact (h.turned nb hn CA F u).2 q h1
 have AL:(K.nodes.map K.tab++N.map (J9 K x)).Nodup:=by
  rw [List.nodup_append];refine ⟨List.pairwise_map.2 (List.Pairwise.imp_of_mem (fun {a b} ha hb hne e=>hne (hk.Hq hu (KV.bP.1 ha).2 (KV.bP.1 hb).2 e)) K.gq),List.pairwise_map.2 (List.Pairwise.imp_of_mem (fun {a b} ha hb hne e=>hne ?_) F.nd),fun s hs u jy e=>?_⟩
  ·subst e
   obtain ⟨r,hr,rfl⟩:=List.mem_map.1 hs;obtain ⟨q,hq,he⟩:=List.mem_map.1 jy;obtain ⟨d1,d2,hne,bK⟩:=nt q hq;obtain ⟨r2,rt⟩:=KV.bP.1 hr;exact bK (nb.pair d1 d2 hne r2 rt fun z=>by rw [<- hk.pg rt,<- he,oM hk hx d1.1 d2.1])
  ·obtain ⟨a1,a2,_⟩:=nt a ha
   obtain ⟨b1,b2,_⟩:=nt b hb
   have hf:∀ z,(if z x then K.den a.2 z else K.den a.1 z)=if z x then K.den b.2 z else K.den b.1 z:=fun z=>by rw [<- oM hk hx a1.1 a2.1,<- oM hk hx b1.1 b2.1,e]
   refine Prod.ext (KV.canon hk.wf hk.ord hu _ _ _ a1.1 b1.1 (Nat.le_refl _) fun z=>?_) (KV.canon hk.wf hk.ord hu _ _ _ a2.1 b2.1 (Nat.le_refl _) fun z=>?_)
   ·have:=hf (upd z x false)
    rw [bD,(nb.aO a1 z false).1,(nb.aO b1 z false).1] at this
    simpa using this
   ·have:=hf (upd z x true)
    rw [bD,(nb.aO a2 z true).1,(nb.aO b2 z true).1] at this
    simpa using this
 have h1:=List.Nodup.length_le_of_subset (lH _) fun u hm=>(vS u).1 hm
 have h2:=List.Nodup.length_le_of_subset AL fun u hm=>(vS u).2 hm
 have h3:=hk.nodes_len;rw [List.length_append,List.length_map,List.length_map] at h1 h2
 show (bz _).length+2=_
 omega
theorem oN {o:List Nat} {l:Nat} (hl:l+1<o.length):bM (bM o l) l=o:=by
 apply List.ext_getElem?
 intro i
 have Xn:l+1<(bM o l).length:=by rw [kV];exact hl
 have g0:(bM o l).getD l 0=o.getD (l+1) 0:=by rw [List.getD_eq_getElem?_getD,iQ hl,if_neg (by omega),if_pos rfl];rfl
 have g1:(bM o l).getD (l+1) 0=o.getD l 0:=by rw [List.getD_eq_getElem?_getD,iQ hl,if_pos rfl];rfl
 rw [iQ Xn,g0,g1]
 by_cases e1:i=l+1
 ·subst e1;rw [if_pos rfl,qV hl]
 ·by_cases e2:i=l
  ·subst e2;rw [if_neg e1,if_pos rfl,qV (by omega)]
  ·rw [if_neg e1,if_neg e2,iQ hl,if_neg e1,if_neg e2]
def MV.Uo (M:MV) (o:List Nat) (l:Nat):Nat:=(bz ((iJ (bz M.tabs) o).flatten++(iJ (bz M.tabs) (bM o l)).flatten)).length
theorem MV.Y6 (M:MV) {o:List Nat} {l:Nat} (hl:l+1<o.length):M.Uo (bM o l) l=M.Uo o l:=by
 unfold MV.Uo;rw [oN hl];refine Nat.le_antisymm (List.Nodup.length_le_of_subset (lH _) fun u hu=>?_) (List.Nodup.length_le_of_subset (lH _) fun u hu=>?_)
 ·rw [gp,List.mem_append] at hu ⊢;exact hu.symm
 ·rw [gp,List.mem_append] at hu ⊢;exact hu.symm
def MV.Ri (M:MV):List Nat->List Nat->Prop
 | [],_=>True
 | l::r,o=>l+2<=M.n/\2+M.Uo o l<=M.c/\M.Ri r (bM o l)
def MV.qm (M:MV):Prop:=M.Ri M.trail.reverse M.order
theorem MV.zf {M M':MV} (h1:M'.n=M.n) (h2:M'.c=M.c) (h3:M'.held=M.held):∀ (r o:List Nat),M.Ri r o->M'.Ri r o
 | [],_,_=>trivial
 | l::r,o,⟨a,b,c⟩=>by
  have ht:M'.tabs=M.tabs:=by unfold MV.tabs;rw [h3]
  exact ⟨by rw [h1];exact a,by unfold MV.Uo;rw [h2,ht];exact b,MV.zf h1 h2 h3 r _ c⟩
def MV.VV (M:MV):MV:={ M with order:=bM M.order (M.trail.getLastD 0),trail:=M.trail.dropLast }
theorem MV.Ko {M:MV} {l:Int} (h:M.gy l=0):0<=l/\l.toNat+2<=M.n/\2+M.U l.toNat<=M.c/\M.gQ l={ M with order:=bM M.order l.toNat,trail:=M.trail++[l.toNat] }:=by
 refine ⟨?_,?_,?_,by unfold MV.gQ;rw [if_pos h]⟩
 all_goals
  unfold MV.gy at h
  split at h
  ·cases h
  ·rename_i h1
   split at h
   ·cases h
   ·omega
theorem MV.Bf {M:MV} {l:Int} (h:M.gy l≠0):M.gQ l=M:=by unfold MV.gQ;rw [if_neg h]
theorem MV.qm.gQ {M:MV} (h:M.qm) (ho:M.order.length=M.n) (l:Int):(M.gQ l).qm:=by
 by_cases he:M.gy l=0
 ·obtain ⟨h0,h1,h2,e⟩:=MV.Ko he
  rw [e]
  show MV.Ri _ (M.trail++[l.toNat]).reverse (bM M.order l.toNat)
  rw [List.reverse_append,List.reverse_singleton,List.singleton_append];refine ⟨h1,?_,?_⟩
  ·show 2+M.Uo (bM M.order l.toNat) l.toNat<=M.c
   rw [M.Y6 (by omega)];exact h2
  ·rw [oN (by omega)]
   exact MV.zf (M:=M) (M':={ M with order:=bM M.order l.toNat,trail:=M.trail++[l.toNat] }) rfl rfl rfl _ _ h
 ·rw [MV.Bf he];exact h
theorem zU {t:List Nat} (h:t≠[]):t=t.dropLast++[t.getLastD 0]:=by
 rw [List.getLastD_eq_getLast?,List.getLast?_eq_some_getLast h];exact (List.dropLast_concat_getLast h).symm
theorem MV.qm.last {M:MV} (h:M.qm) (hne:M.trail≠[]):M.trail.getLastD 0+2<=M.n/\2+M.U (M.trail.getLastD 0)<=M.c/\M.VV.qm:=by
 have hs:=zU hne;unfold MV.qm at h;generalize M.trail.getLastD 0=l at hs h ⊢;rw [hs,List.reverse_append,List.reverse_singleton,List.singleton_append] at h;obtain ⟨a,b,c⟩:=h;refine ⟨a,b,?_⟩
 show MV.Ri _ M.trail.dropLast.reverse (bM M.order (M.trail.getLastD 0))
 have e:M.trail.getLastD 0=l:=by rw [hs];simp
 rw [e];exact MV.zf (M:=M) (M':=M.VV) rfl rfl rfl _ _ c
def MV.live (M:MV):Nat:=M.lev.flatten.length
end Go.Proofs.YtfkopmhpppeheaaGreat
namespace Go.Proofs.YtfkopmhpppeheaaGreat
open Go.RowKit Go.Maps Go.ChangeMaps Go.WideShapes
theorem MV.Fit.new {n c:Nat} (hn:n<=8) (hc:c<=1048576):(MV.new n c).Fit :=
 ⟨by simp [MV.new],hn,by simp [MV.new];exact hn,fun x hx=>by simpa [MV.new] using hx,fun t ht=>by simp [MV.new,MV.tabs] at ht,hc⟩
structure zV (w:World) (k:IntKind) (a:Option Addr) (n:Nat) (zs:List Int):Prop where
 len:zs.length=n
 mx:n<=maxLen
 at_:∀ i,i<n->∃ x,a=some x/\w.cell? (x.add i)=some (.int k (zs.getD i 0))
theorem zV.keep0 {w w':World} {k:IntKind} {a:Option Addr} {n:Nat} {zs:List Int} (h:zV w k a n zs) (u:af [] w w'):zV w' k a n zs :=
 ⟨h.len,h.mx,fun i hi=>by obtain ⟨x,e,hc⟩:=h.at_ i hi;exact ⟨x,e,u.cell0 hc⟩⟩
theorem wQ.cell {n0:Nat} {w w':World} (f:wQ n0 w w') {a:Addr} {v:Value} (h:w.cell? a=some v) (ha:a.block<n0):w'.cell? a=some v :=
 (World.cell?_of_block (f.block _ ha (World.block_lt_of_cell? _ _ h))).trans h
structure KM (K:KV) (M:MV):Prop where
 agr:uf K M
 fit:M.Fit
 tr:K.trail=M.trail
 tf:M.qm
theorem KM.n16 {K:KV} {M:MV} (h:KM K M):K.vars<=16:=by have:=h.fit.n6;rw [h.agr.same.n] at this;omega
theorem KM.len {K:KV} {M:MV} (h:KM K M) (hk:K.Ok):M.order.length=M.n:=by rw [h.agr.same.od,h.agr.same.n];exact hk.ord.pm.ol
theorem KV.Ext.trail (K:KV) (t:List Nat):K.Ext { K with trail:=t }:=⟨fun _ _ h _=>h,rfl,rfl,rfl,rfl⟩
theorem uf.gQ {K K1:KV} {M:MV} {l:Nat} {t:List Nat} (h:uf K M) (hk0:K.Ok) (hk:K1.Ok) (X:xK K l K1):uf { K1 with trail:=t } { M with order:=bM M.order l,trail:=t }:=by
 refine ⟨⟨?_,h.same.n.trans X.vr.symm⟩,h.c.trans X.pl.symm,h.nd,fun u c hm=>?_,fun r hr=>?_⟩
 ·show bM M.order l=K1.order
  rw [X.od,h.same.od];rfl
 ·obtain ⟨h1,h2,r,h3,h4,h5,h6,h7⟩:=h.hl u c hm
  have hh:K1.hold r=c:=by rw [X.hd];exact h5
  have ht:=(hk.wf.ht r (by rw [hh];exact h6)).2;exact ⟨h1,h2.trans X.vr.symm,r,h3,ht,hh,h6,fun y=>by rw [(KV.Ext.trail K1 t).den hk.wf y ht,X.den r h4 ht];exact h7 y⟩
 ·have Il:0<K1.hold r:=hr
  have ht:=(hk.wf.ht r Il).2;rw [X.hd] at Il;obtain ⟨u,c,h1,h2,h3⟩:=h.lh r Il;refine ⟨u,c,h1,by show K1.hold r=c;rw [X.hd];exact h2,fun y=>?_⟩
  rw [(KV.Ext.trail K1 t).den hk.wf y ht,X.den r (hk0.wf.ht r Il).2 ht];exact h3 y
theorem MV.Fit.gQ {M:MV} (h:M.Fit) {l:Nat} (hl:l+1<M.order.length) (t:List Nat):({ M with order:=bM M.order l,trail:=t }:MV).Fit :=
 ⟨h.hl,h.n6,by show (bM _ _).length<=8;rw [kV];exact h.ol,fun x hx=>h.on x (yN hl hx),h.tn,h.cb⟩
structure qW (K K':KV):Prop where
 vr:K'.vars=K.vars
 hd:∀ r,K'.hold r=K.hold r
 den:∀ r,0<K.hold r\/r<2->∀ z,K'.den r z=K.den r z
theorem qW.refl (K:KV):qW K K:=⟨rfl,fun _=>rfl,fun _ _ _=>rfl⟩
theorem qW.trans {A B C:KV} (h:qW A B) (k:qW B C):qW A C :=
 ⟨k.vr.trans h.vr,fun r=>(k.hd r).trans (h.hd r),fun r hr z=>(k.den r (by rw [h.hd];exact hr) z).trans (h.den r hr z)⟩
theorem xK.stay {K K1:KV} {l:Nat} {t:List Nat} (X:xK K l K1) (hk0:K.Ok) (hk:K1.Ok):qW K { K1 with trail:=t }:=by
 refine ⟨X.vr,X.hd,fun r hr z=>?_⟩
 rcases hr with hr | hr
 ·have ht:=(hk.wf.ht r (by rw [X.hd];exact hr)).2
  rw [(KV.Ext.trail K1 t).den hk.wf z ht];exact X.den r (hk0.wf.ht r hr).2 ht z
 ·rw [KV.aN _ hr,KV.aN _ hr]
structure aaX (b:Nat) (K:KV) (F:List Nat) (M':MV) (w w':World):Prop where
 ex:∃ (K':KV) (F':List Nat),aZ w' b K' F'/\KM K' M'/\qW K K'/\af F w w'/\Sub F w F'
theorem KV.Ok.nb {K:KV} (hk:K.Ok) (hu:K.Uni) {l:Nat} (hl:l+2<=K.vars):Nb K l (K.order.getD l 0) (K.order.getD (l+1) 0):=⟨hk,hu,hl,rfl,rfl⟩
theorem PI (b:Nat) (l:Int) (K:KV) (F:List Nat) (M:MV) (w:World) (h:aZ w b K F) (hm:KM K M) (ht:M.trail.length<=1000000) :
  Calls Tryz.prog 29 #[.pointer (some ⟨b,0,none⟩),.int .i64 l] w fun e w'=>e=.returned (.int .i64 (M.gy l))/\aaX b K F (M.gQ l) w w':=by
 have hu:=h.uni;obtain ⟨T,q,hk,rfl⟩:=h;refine (vF b l K T q w hk (by rw [hm.tr];exact ht)).mono ?_;rintro e w' hE;obtain ⟨code,K',T',q',rfl,dB,jy,uO,hc⟩:=hE.ex;have hn:=hm.agr.same.n
 rcases hc with ⟨rfl,h1,rfl⟩ | ⟨n,rfl,h2,C,N,CA,F,hc⟩
 ·have he:M.gy l=1:=by unfold MV.gy;rw [if_pos (by rw [hn];exact h1)]
  exact ⟨by rw [he],K',_,⟨T',q',dB,rfl⟩,by rw [MV.Bf (by rw [he];omega)];exact hm,qW.refl _,jy,uO⟩
 ·have hU:=hm.agr.U (hk.ok.nb hu h2) hm.n16 CA F
  have Y7:=hm.agr.c
  rcases hc with ⟨rfl,h3,rfl⟩ | ⟨rfl,h3,K1,X,_,rfl⟩
  ·have he:M.gy (n:Int)=9:=by unfold MV.gy;rw [if_neg (by omega),Int.toNat_natCast,if_pos (by omega)]
   exact ⟨by rw [he],K',_,⟨T',q',dB,rfl⟩,by rw [MV.Bf (by rw [he];omega)];exact hm,qW.refl _,jy,uO⟩
  ·have he:M.gy (n:Int)=0:=by unfold MV.gy;rw [if_neg (by omega),Int.toNat_natCast,if_neg (by omega)]
   have xC:K1.Ok:=⟨⟨dB.ok.wf.ok,dB.ok.wf.len,dB.ok.wf.ul,dB.ok.wf.tu,dB.ok.wf.ht,dB.ok.wf.hm,dB.ok.wf.eq,dB.ok.wf.pt,dB.ok.wf.cl,dB.ok.wf.vr,dB.ok.wf.vs⟩,dB.ok.pos,dB.ok.ord.same rfl rfl rfl rfl,fun t Qx=>dB.ok.tl t (by show t∈K1.trail++[n];simp [Qx])⟩;have yC:=hk.ok.ord.pm.ol
   have e1:M.gQ (n:Int)={ M with order:=bM M.order n,trail:=M.trail++[n] }:=by
    obtain ⟨_,_,_,e⟩:=MV.Ko he
    rw [Int.toNat_natCast] at e;exact e
   have qG:K1.trail++[n]=M.trail++[n]:=by rw [X.tr,hm.tr]
   refine ⟨by rw [he],K1.dX n,_,⟨T',q',dB,rfl⟩,⟨?_,?_,?_,hm.tf.gQ (hm.len hk.ok) _⟩,X.stay hk.ok xC,jy,uO⟩
   ·rw [e1,<- qG];exact hm.agr.gQ hk.ok xC X
   ·rw [e1];exact hm.fit.gQ (by rw [hm.len hk.ok,hn];omega) _
   ·rw [e1];exact qG
theorem Y8 (b:Nat) (K:KV) (F:List Nat) (M:MV) (w:World) (h:aZ w b K F) (hm:KM K M) (ht:M.trail.length<=1000000) (hne:M.trail≠[]) :
  Calls Tryz.prog 68 #[.pointer (some ⟨b,0,none⟩)] w fun e w'=>e=.returned (.tuple #[.int .i64 (M.trail.getLastD 0:Nat),.int .i64 0])/\aaX b K F M.VV w w':=by
 have hu:=h.uni;obtain ⟨T,q,hk,rfl⟩:=h;obtain ⟨t1,t2,t3⟩:=hm.tf.last hne;have hn:=hm.agr.same.n;have Y7:=hm.agr.c;refine (Gs b K T q w hk (by rw [hm.tr];exact ht) (fun _ C N CA F=>?_)).mono ?_
 ·rw [hm.tr] at CA F
  have hU:=hm.agr.U (hk.ok.nb hu (by omega)) hm.n16 CA F;omega
 ·rintro e w' hE
  obtain ⟨K',T',q',dB,jy,uO,hc⟩:=hE.ex
  rcases hc with ⟨h1,_⟩ | ⟨_,rfl,K1,X,rfl⟩
  ·rw [hm.tr] at h1;exact absurd h1 hne
  ·rw [hm.tr] at X
   have xC:K1.Ok:=⟨⟨dB.ok.wf.ok,dB.ok.wf.len,dB.ok.wf.ul,dB.ok.wf.tu,dB.ok.wf.ht,dB.ok.wf.hm,dB.ok.wf.eq,dB.ok.wf.pt,dB.ok.wf.cl,dB.ok.wf.vr,dB.ok.wf.vs⟩,dB.ok.pos,dB.ok.ord.same rfl rfl rfl rfl,fun t Qx=>by rw [X.tr] at Qx;rw [X.vr];exact hk.ok.tl t Qx⟩
   have qG:K1.trail.dropLast=M.trail.dropLast:=by rw [X.tr,hm.tr]
   refine ⟨by rw [hm.tr],K1.IC,_,⟨T',q',dB,rfl⟩,⟨?_,?_,qG,t3⟩,X.stay hk.ok xC,jy,uO⟩
   ·show uf { K1 with trail:=K1.trail.dropLast } { M with order:=bM M.order (M.trail.getLastD 0),trail:=M.trail.dropLast }
    rw [<- qG];exact hm.agr.gQ hk.ok xC X
   ·exact hm.fit.gQ (by rw [hm.len hk.ok,hn];omega) _
theorem KM.live {K:KV} {M:MV} (h:KM K M) (hk:K.Ok) (hu:K.Uni):(K.A.used:Int)-2=(M.live:Nat):=by
 have:=h.agr.used hk hu h.n16
 unfold MV.live;omega
theorem mF {x:World} {B a j:Nat} {v0 v1:Value} (h:x.cell? ⟨B,0,none⟩=some v0/\x.cell? ⟨B,1,none⟩=some v1) (hne:B≠a) (u:Value):(x.setCell ⟨a,j,none⟩ u).cell? ⟨B,0,none⟩=some v0/\(x.setCell ⟨a,j,none⟩ u).cell? ⟨B,1,none⟩=some v1:=by
 have hb:(x.setCell ⟨a,j,none⟩ u).heap[B]?=x.heap[B]?:=aG hne;exact ⟨(World.cell?_of_block (a:=⟨B,0,none⟩) hb).trans h.1,(World.cell?_of_block (a:=⟨B,1,none⟩) hb).trans h.2⟩
theorem fH.lt {w:World} {m:Nat} {M:MV} {p:bG} {Z:List Nat} (h:fH w m M p Z):∀ k,k∈p.all m->k<w.heap.size:=fun k hk=>by
 rcases bG.mem.1 hk with rfl | h1 | h1 | h1
 ·exact ah h.blk
 ·exact (h.os.lt k h1).2
 ·obtain ⟨xs,hr⟩:=h.hs.row;exact (hr.lt k h1).2
 ·exact (h.ts.lt k h1).2
theorem MV.qm.nil {M:MV} (h:M.trail=[]):M.qm:=by
 unfold MV.qm;rw [h];exact trivial
def MV.x8 (M:MV) (t:TV):Int:=if 65535<=M.holds t then 8 else if M.fits [t] then 0 else 9
def MV.ans (M:MV) (t:TV):MV:=if M.x8 t=0 then { M.jB t with trail:=[] } else M
theorem uf.IE {K:KV} {M:MV} (h:uf K M) (t:List Nat):uf K { M with trail:=t }:=⟨⟨h.same.od,h.same.n⟩,h.c,h.nd,h.hl,h.lh⟩
theorem MV.Fit.IE {M:MV} (h:M.Fit) (t:List Nat):MV.Fit { M with trail:=t }:=⟨h.hl,h.n6,h.ol,h.on,h.tn,h.cb⟩
theorem ji.trans {m:Nat} {M1 M2:MV} {p:bG} {Z:List Nat} {w w1 w2:World} (h:ji m p Z M1 w w1) (k:∀ p1,fH w1 m M1 p1 (Z++p1.all m)->ji m p1 (Z++p1.all m) M2 w1 w2):ji m p Z M2 w w2:=by
 obtain ⟨p1,h1,u1,s1⟩:=h.ex;obtain ⟨p2,h2,u2,s2⟩:=(k p1 h1).ex;refine ⟨p2,h2.apart (fun k hk=>.inl ?_) (fun k hk=>List.mem_append.2 (.inr hk)),u1.then u2 (fun k hk=>s1 k hk),fun k hk=>?_⟩
 ·rcases List.mem_append.1 hk with h | h
  ·exact List.mem_append.2 (.inl (List.mem_append.2 (.inl h)))
  ·exact List.mem_append.2 (.inr h)
 ·rcases s2 k hk with h | h
  ·exact s1 k h
  ·right;have:=u1.size;omega
end Go.Proofs.YtfkopmhpppeheaaGreat
