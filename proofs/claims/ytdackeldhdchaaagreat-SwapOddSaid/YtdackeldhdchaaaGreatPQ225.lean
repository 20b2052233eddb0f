import Derived.Test.YtdackeldhdchaaaGreatPQ224
import Derived.Test.YtdackeldhdchaaaGreatPQ216
import Derived.Test.YtdackeldhdchaaaGreatPQ219
import Derived.Test.YtdackeldhdchaaaGreatPQ213
import Derived.Test.YtdackeldhdchaaaGreatPQ21
import Derived.Laws.ResultCell
import Derived.Laws.Rows
import Derived.Deep.DeepCutAuto
import Derived.Deep.RegionLaw
import Derived.Deep.AppendLies
set_option maxRecDepth 100000
set_option maxHeartbeats 1600000
namespace Go.Proofs.YtdackeldhdchaaaGreat
open Go.RowKit Go.Maps Go.ChangeMaps Go.WideShapes
def KV.addT (K:KV) (l:Nat):KV:={ K with trail:=K.trail++[l] }
theorem KV.Ok.addT {K:KV} (h:K.Ok) {l:Nat} (hl:l+2<=K.vars):(K.addT l).Ok:=by
 refine ⟨⟨h.wf.ok,h.wf.len,h.wf.ul,h.wf.tu,h.wf.ht,h.wf.hm,h.wf.eq,h.wf.pt,h.wf.cl,h.wf.vr,h.wf.vs⟩,h.pos,h.ord.same rfl rfl rfl rfl,fun x hx=>?_⟩
 rcases List.mem_append.1 hx with hx | hx
 ·exact h.tl x hx
 ·simp at hx;subst hx;exact hl
def KV.cutT (K:KV):KV:={ K with trail:=K.trail.dropLast }
theorem KV.Ok.cutT {K:KV} (h:K.Ok):K.cutT.Ok :=
 ⟨⟨h.wf.ok,h.wf.len,h.wf.ul,h.wf.tu,h.wf.ht,h.wf.hm,h.wf.eq,h.wf.pt,h.wf.cl,h.wf.vr,h.wf.vs⟩,h.pos,h.ord.same rfl rfl rfl rfl,fun x hx=>h.tl x (List.dropLast_subset _ hx)⟩
structure aOl (b:Nat) (K:KV) (l:Int) (q:abM) (w:World) (e:Ending) (w':World):Prop where
  ex:∃ (code:Int) (K':KV) (T':List DM) (q':abM),e=.returned (.int .i64 code)∧afF w' b K' T' q'∧Upd (q.all b) w w'∧Sub (q.all b) w (q'.all b) ∧
    ((code=1∧(l < 0∨(K.vars:Int) - 2 < l)∧K'=K) ∨
     ∃ n:Nat,l=(n:Int)∧n + 2≤K.vars∧∃ (C:List CrV) (N:List (Nat × Nat)),aiH K n (K.order.getD n 0) (K.order.getD (n + 1) 0) C∧FrN K (K.order.getD n 0) (C.flatMap CrV.qs) N ∧
      ((code=9∧K.A.places < K.A.used + N.length∧K'=K)∨(code=0∧K.A.used + N.length≤K.A.places∧∃ K1,aCs K n K1∧(C=[]→K1=K.swapK n)∧K'=K1.addT n)))
theorem aAI (b:Nat) (l:Int) (K:KV) (T:List DM) (q:abM) (w:World) (h:afF w b K T q) (htr:K.trail.length<=1000000) :
  Calls Tryz.prog 27 #[.pointer (some ⟨b,0,none⟩),.int .i64 l] w fun e w'=>aOl b K l q w e w':=by
 obtain ⟨ti,hi0,hz0,amR,hz2⟩:=info_parts Tryz.infoIntE;have HI:=Lib.hid (And.intro hi0 (And.intro hz0 (And.intro amR hz2)));have hvs:=h.ok.wf.vs;have c4:w.cell? ⟨b,4,none⟩=some (.int .i64 K.vars):=aac h.mem.blk rfl;have HK:=Lib.hid h;clear h hi0 hz0 amR hz2
 by_cases h0:l<0
 ·have hd0:decide (l<0)=true:=by simpa using h0
  go_enter Tryz.func27,Tryz.ntmps27
  go_wp2_with fail;go_ret;exact ⟨1,K,T,q,rfl,HK.out,Upd.refl _ _,Sub.refl _ _,.inl ⟨rfl,.inl h0,rfl⟩⟩
 ·have hd0:decide (l<0)=false:=by simpa using h0
  have arN:IntKind.i64.wrap ((K.vars:Int)-2)=(K.vars:Int)-2:=IntWalk.i64_in _ (by omega)
  by_cases h1:(K.vars:Int)-2<l
  ·have hd1:decide ((K.vars:Int)-2<l)=true:=by simpa using h1
   go_enter Tryz.func27,Tryz.ntmps27
   go_wp2_with fail;go_ret;exact ⟨1,K,T,q,rfl,HK.out,Upd.refl _ _,Sub.refl _ _,.inl ⟨rfl,.inr h1,rfl⟩⟩
  ·have hd1:decide ((K.vars:Int)-2<l)=false:=by simpa using h1
   obtain ⟨n,rfl⟩ : ∃ n:Nat,l=(n:Int):=⟨l.toNat,by omega⟩;have HT:=Lib.hid (aBP b n K T q w HK.out (by omega))
   go_enter Tryz.func27,Tryz.ntmps27
   go_wp2_with fail;refine HT.out.mono ?_;rintro e w1 hE;obtain ⟨C,N,hC,hN,aBg⟩:=hE.ex;have HCN:=Lib.hid (And.intro hC hN);clear hE hC hN HT c4
   rcases aBg with ⟨rfl,aGG,hu⟩ | ⟨rfl,afQ,K1,T1,q1,hx,aM2,hk1,hu,hs⟩
   ·have HE:Hid (aOl b K n q w (.returned (.int .i64 9)) w1):=⟨9,K,T,q,rfl,HK.out.upd hu (by simp),hu.mono (by simp),Sub.refl _ _,.inr ⟨n,rfl,by omega,C,N,HCN.out.1,HCN.out.2,.inl ⟨rfl,aGG,rfl⟩⟩⟩
    clear aGG hu;go_wp2_with fail;go_ret;exact HE.out
   ·have hm:=hk1.mem
    have abP:=hm.ts;have avA:K1.trail=K.trail:=hx.tr;rw [avA] at abP;obtain ⟨fa,fc,hfv,_⟩:=abI abP
    have hb7:w1.cell? ⟨b,7,none⟩=some (.slice fa K.trail.length fc):=by rw [show Value.slice fa K.trail.length fc=q1.tv from hfv.symm];exact aac hm.blk rfl
    rw [hfv] at abP;have aep:Hid (w1.ownsRow 0 3 1 (.slice fa K.trail.length fc) K.trail.length (acf K.trail)):=abP;have HFV:=Lib.hid hfv;have HM:=Lib.hid (And.intro hm (And.intro hu (And.intro hs (And.intro hx (And.intro aM2 (And.intro hk1.ti hk1.ok))))));have hbl:=aa4 hm.blk
    have HC2:Hid (∀ u,u∈[Value.int .i64 n]->u.oneCell'=true):=by intro u hu;simp at hu;subst hu;rfl
    clear hm hu hs hx aM2 hk1 abP hfv
    go_wp2_with (at_builtin;go_must (refine wpList_append_lies _ rfl (.tmp 29) (.tmp 31) 23 rfl 0 3 ti _ 1 8 Tryz.underlying23 HI.out.1 HI.out.2.1 HI.out.2.2.1 HI.out.2.2.2 (by rfl) (by decide) _ K.trail.length (acf K.trail) rfl (aep.out.alloc _) ⟨w1.heap.size,0,none⟩ 1 1 [.int .i64 n] rfl rfl ?c1 HC2.out (by omega) (by unfold maxLen;omega) (by omega) (by omega) _ rfl ?_))
    case c1=>exact World.news_of_block (heap_alloc_new w1 (.cells #[.int .i64 n] 3 (0,0)))
    intro g5 cap w5 ab3 hgr hat ajb
    have ayE:(Value.slice fa K.trail.length fc).ownBlock=some g5\/g5=w1.heap.size+1:=hat
    have aCE:w5.heap[b]?=w1.heap[b]?:=by
     have hne:some b≠(Value.slice fa K.trail.length fc).ownBlock:=by
      intro e
      have e1:=HM.out.1.ob;have e2:=HM.out.1.ox b (by rw [HFV.out];exact e.symm);omega
     rw [hgr.block b (by rw [World.size_alloc];omega) hne,Below.heap_alloc _ _ _ hbl]
    rw [HM.out.1.blk] at aCE;have fz:w5.frozen? ⟨b,7,none⟩=false:=abq 7 aCE;have c57:w5.cell? ⟨b,7,none⟩=some q1.tv:=aac aCE rfl
    have HE:Hid (∃ q',abv (w5.setCell ⟨b,7,none⟩ (.slice (some ⟨g5,0,none⟩) (K.trail.length+1) cap)) b (K1.addT n) T1 q'/\Upd (q.all b) w (w5.setCell ⟨b,7,none⟩ (.slice (some ⟨g5,0,none⟩) (K.trail.length+1) cap))/\Sub (q.all b) w (q'.all b)):=by
     have m:=HM.out.1.growTrail (g5:=g5) (cap:=cap) (l:=n) (by rw [HFV.out];exact hgr) (by rw [HFV.out];exact ayE) (by rw [avA];exact ab3);rw [avA] at m;refine ⟨_,by unfold KV.addT;rw [avA];exact m,?_,fun k hk=>?_⟩
     ·have hbm:b∈q.all b:=abM.mem.2 (.inl rfl)
      have u5:Upd (q.all b) w w5:=(HM.out.2.1.alloc (.cells #[.int .i64 n] 3 (0,0))).grown hgr fun k hk=>HM.out.2.2.1 k (abM.mem.2 (.inr (.inr (.inr (.inr (.inr (.inr (.inr (by rw [HFV.out];exact hk)))))))))
      exact u5.setCell (p:=⟨b,7,none⟩) (.inl hbm) _
     ·have old:∀ k,k∈q1.all b->k∈q.all b\/w.heap.size<=k:=HM.out.2.2.1
      simp only [abM.mem] at hk
      rcases hk with hk | hk | hk | hk | hk | hk | hk | hk
      ·exact old k (abM.mem.2 (.inl hk))
      ·exact old k (abM.mem.2 (.inr (.inl hk)))
      ·exact old k (abM.mem.2 (.inr (.inr (.inl hk))))
      ·exact old k (abM.mem.2 (.inr (.inr (.inr (.inl hk)))))
      ·exact old k (abM.mem.2 (.inr (.inr (.inr (.inr (.inl hk))))))
      ·exact old k (abM.mem.2 (.inr (.inr (.inr (.inr (.inr (.inl hk)))))))
      ·exact old k (abM.mem.2 (.inr (.inr (.inr (.inr (.inr (.inr (.inl hk))))))))
      ·simp [Value.ownBlock] at hk;subst hk
       rcases ayE with e | e
       ·exact old _ (abM.mem.2 (.inr (.inr (.inr (.inr (.inr (.inr (.inr (by rw [HFV.out];exact e)))))))))
       ·have:=HM.out.2.1.size;right;omega
    clear ab3 hgr hat ayE ajb aCE hb7;go_wp2_with fail;go_ret;obtain ⟨q',m,u,s⟩:=HE.out;exact ⟨0,K1.addT n,T1,q',rfl,⟨m,HM.out.2.2.2.2.2.1.same rfl rfl,HM.out.2.2.2.2.2.2.addT (by rw [HM.out.2.2.2.1.vr];omega)⟩,u,s,.inr ⟨n,rfl,by omega,C,N,HCN.out.1,HCN.out.2,.inr ⟨rfl,afQ,K1,HM.out.2.2.2.1,HM.out.2.2.2.2.1,rfl⟩⟩⟩
theorem abv.cutTrail {w:World} {b g n c:Nat} {K:KV} {T:List DM} {q:abM} (h:abv w b K T q) (hq:q.tv=.slice (some ⟨g,0,none⟩) n c) :
  abv (w.setCell ⟨b,7,none⟩ (.slice (some ⟨g,0,none⟩) (K.trail.length-1) c)) b K.cutT T { q with tv:=.slice (some ⟨g,0,none⟩) (K.trail.length-1) c }:=by
 have hne:∀ {k c},q.o k=c->c≠0->k≠b:=fun {k c} hk hc hm=>hc (by rw [<- hk,hm,h.ob])
 have hk:∀ {k c:Nat} {v:Value},q.o k=c->c≠0->(w.setCell ⟨b,7,none⟩ v).heap[k]?=w.heap[k]?:=fun hk hc=>acb (hne hk hc)
 have hts:=h.ts;rw [hq] at hts;have hg:q.o g=7:=h.ox g (by rw [hq];rfl)
 refine ⟨by rw [abV h.blk];rfl,h.ar.keep fun k hm=>hk (h.oa k hm) (by omega),h.tab.keep fun k hm=>hk (h.ot k hm) (by omega),aaX h.us fun k hm=>hk (h.ou k hm) (by omega),
  aaX h.hs fun k hm=>hk (h.oh k hm) (by omega),aaX h.os fun k hm=>hk (h.oo k hm) (by omega),aaX h.ls fun k hm=>hk (h.ol k hm) (by omega),?_,
  h.ob,h.oa,h.ot,h.ou,h.oh,h.oo,h.ol,fun k hk=>by simp [Value.ownBlock] at hk;subst hk;exact hg⟩
 have e:K.cutT.trail.length=K.trail.length-1:=by show K.trail.dropLast.length=_;rw [List.length_dropLast]
 rw [e];have ht:=ax3 hts (m:=K.trail.length-1) (by omega)
 have e2:acf K.cutT.trail=(acf K.trail).take ((K.trail.length-1)*1):=by
  show acf K.trail.dropLast=_
  rw [List.dropLast_eq_take,Nat.mul_one];simp [acf,List.map_take]
 rw [e2];exact ac9 ht (a:=⟨b,7,none⟩) (by simp [Value.ownBlock];exact fun e=>(hne hg (by omega)) e.symm) _
structure aKo (b:Nat) (K:KV) (q:abM) (w:World) (e:Ending) (w':World):Prop where
  ex:∃ (K':KV) (T':List DM) (q':abM),afF w' b K' T' q'∧Upd (q.all b) w w'∧Sub (q.all b) w (q'.all b) ∧
    ((K.trail=[]∧e=.returned (.tuple #[.int .i64 0,.int .i64 10])∧K'=K) ∨
     (K.trail≠[]∧e=.returned (.tuple #[.int .i64 (K.trail.getLastD 0:Nat),.int .i64 0])∧∃ K1,aCs K (K.trail.getLastD 0) K1∧K'=K1.cutT))
theorem aM3 {t:List Nat} (h:t≠[]):t[t.length-1]?=some (t.getLastD 0):=by
 rw [<- List.getLast?_eq_getElem?,List.getLastD_eq_getLast?,List.getLast?_eq_some_getLast h];rfl
theorem aHN (b:Nat) (K:KV) (T:List DM) (q:abM) (w:World) (h:afF w b K T q) (htr:K.trail.length<=1000000)
  (afQ:K.trail≠[]->∀ (C:List CrV) (N:List (Nat × Nat)),aiH K (K.trail.getLastD 0) (K.order.getD (K.trail.getLastD 0) 0) (K.order.getD (K.trail.getLastD 0+1) 0) C->FrN K (K.order.getD (K.trail.getLastD 0) 0) (C.flatMap CrV.qs) N->K.A.used+N.length<=K.A.places) :
  Calls Tryz.prog 60 #[.pointer (some ⟨b,0,none⟩)] w fun e w'=>aKo b K q w e w':=by
 have abP:=h.mem.ts;have HK:=Lib.hid h;obtain ⟨fa,fc,hfv,awK⟩:=abI abP
 have c7:w.cell? ⟨b,7,none⟩=some (.slice fa K.trail.length fc):=by rw [<- hfv];exact aac h.mem.blk rfl
 have HFV:=Lib.hid hfv;rw [hfv] at abP;have HRM:=Lib.hid afQ;clear h hfv afQ
 by_cases hn:K.trail=[]
 ·have hl0:K.trail.length=0:=by rw [hn];rfl
  have HE:Hid (aKo b K q w (.returned (.tuple #[.int .i64 0,.int .i64 10])) w):=⟨K,T,q,HK.out,Upd.refl _ _,Sub.refl _ _,.inl ⟨hn,rfl,rfl⟩⟩;rw [hl0] at c7;clear abP awK hn
  go_enter Tryz.func60,Tryz.ntmps60
  go_wp2_with fail;go_ret2;exact HE.out
 ·obtain ⟨k,hk⟩ : ∃ k,K.trail.length=k+1:=⟨K.trail.length-1,by have:=List.length_pos_iff.2 hn;omega⟩
  obtain ⟨g,rfl⟩ : ∃ g,fa=some ⟨g,0,none⟩:=by
   rcases awK with ⟨_,h0,_⟩ | h
   ·omega
   ·exact h
  obtain ⟨l,hl⟩ : ∃ l,K.trail.getLastD 0=l:=⟨_,rfl⟩;have hat:=aM3 hn;rw [hl,hk] at hat;have cl:w.cell? ⟨g,k,none⟩=some (.int .i64 l):=abf abP (by simp [acf];exact ⟨l,hat,rfl⟩);have hl2:l+2<=K.vars:=HK.out.ok.tl l (List.mem_of_getElem? hat);have HT:=Lib.hid (aBP b l K T q w HK.out hl2);have HL:=Lib.hid hl;have HN:=Lib.hid hn;have HKL:=Lib.hid hk;rw [hk] at c7 htr;clear abP awK hat hl hn hk
  go_enter Tryz.func60,Tryz.ntmps60
  go_wp2_with fail;refine HT.out.mono ?_;rintro e w1 hE;obtain ⟨C,N,hC,hN,aBg⟩:=hE.ex;have hrm:=HRM.out HN.out;rw [HL.out] at hrm;have aWG:=hrm C N hC hN
  rcases aBg with ⟨_,aGG,_⟩ | ⟨rfl,afQ,K1,T1,q1,hx,_,hk1,hu,hs⟩
  ·omega
  ·have avA:K1.trail=K.trail:=hx.tr
   have abP:=hk1.mem.ts;obtain ⟨fa,fc2,hfv,awK⟩:=abI abP
   obtain ⟨g2,rfl⟩ : ∃ g,fa=some ⟨g,0,none⟩:=by
    rcases awK with ⟨_,h0,_⟩ | h
    ·rw [avA,HKL.out] at h0;omega
    ·exact h
   have hc2:k+1<=fc2:=by have:=(ajT (hfv ▸ abP)).2.1;rw [avA,HKL.out] at this;exact this
   have b7:w1.cell? ⟨b,7,none⟩=some (.slice (some ⟨g2,0,none⟩) (k+1) fc2):=by
    have:=aac (j:=7) hk1.mem.blk (v:=q1.tv) rfl;rw [this,hfv,avA,HKL.out]
   have fz:w1.frozen? ⟨b,7,none⟩=false:=abq 7 hk1.mem.blk;have m:=hk1.mem.cutTrail hfv;rw [avA,HKL.out,Nat.add_sub_cancel] at m
   have HE:Hid (aKo b K q w (.returned (.tuple #[.int .i64 l,.int .i64 0])) (w1.setCell ⟨b,7,none⟩ (.slice (some ⟨g2,0,none⟩) k fc2))):=by
    refine ⟨K1.cutT,T1,_,⟨m,hk1.ti.same rfl rfl,hk1.ok.cutT⟩,hu.setCell (p:=⟨b,7,none⟩) (.inl (abM.mem.2 (.inl rfl))) _,fun j hj=>hs j ?_,.inr ⟨HN.out,by rw [HL.out],K1,by rw [HL.out];exact hx,rfl⟩⟩
    simp only [abM.mem] at hj ⊢
    rcases hj with hj | hj | hj | hj | hj | hj | hj | hj
    ·exact .inl hj
    ·exact .inr (.inl hj)
    ·exact .inr (.inr (.inl hj))
    ·exact .inr (.inr (.inr (.inl hj)))
    ·exact .inr (.inr (.inr (.inr (.inl hj))))
    ·exact .inr (.inr (.inr (.inr (.inr (.inl hj)))))
    ·exact .inr (.inr (.inr (.inr (.inr (.inr (.inl hj))))))
    ·exact .inr (.inr (.inr (.inr (.inr (.inr (.inr (by rw [hfv];exact hj)))))))
   clear hE hC hN hrm aWG afQ hx hk1 hu hs avA abP hfv awK m HT HRM;go_wp2_with fail;go_ret2;exact HE.out
end Go.Proofs.YtdackeldhdchaaaGreat
namespace Go.Proofs.YtdackeldhdchaaaGreat
theorem aFR {o o':List Nat} (h:∀ v,v∈o↔v∈o') (a y:Nat->Bool):mixO o a y=mixO o' a y:=by
 funext v
 simp only [mixO,h]
theorem aik {o:List Nat} {l:Nat} (hl:l+1<o.length) (i:Nat):(adL o l)[i]?=if i=l+1 then some (o.getD l 0) else if i=l then some (o.getD (l+1) 0) else o[i]?:=by
 unfold adL
 by_cases e1:i=l+1
 ·subst e1;rw [List.getElem?_set_self (by simpa using hl),if_pos rfl]
 ·rw [List.getElem?_set_ne (Ne.symm e1),if_neg e1]
  by_cases e2:i=l
  ·subst e2;rw [List.getElem?_set_self (by omega),if_pos rfl]
  ·rw [List.getElem?_set_ne (Ne.symm e2),if_neg e2]
theorem anO {o:List Nat} {l i:Nat} (hi:i<=l):(adL o l).take i=o.take i:=by
 unfold adL;rw [List.take_set_of_le (by omega),List.take_set_of_le (by omega)]
theorem awN {o:List Nat} {i v:Nat}:v∈o.take i↔∃ j,j<i/\o[j]?=some v:=by
 constructor
 ·intro h
  obtain ⟨j,hj⟩:=List.getElem?_of_mem h;rw [List.getElem?_take] at hj
  split at hj
  ·rename_i h1;exact ⟨j,h1,hj⟩
  ·cases hj
 ·rintro ⟨j,h1,h2⟩
  exact List.mem_of_getElem? (i:=j) (by rw [List.getElem?_take,if_pos h1];exact h2)
theorem arG {o:List Nat} {j:Nat} (h:j<o.length):o[j]?=some (o.getD j 0):=by
 rw [List.getD_eq_getElem?_getD,List.getElem?_eq_getElem h];rfl
theorem aAK {o:List Nat} {l i:Nat} (hl:l+1<o.length) (hi:l+2<=i) (v:Nat):v∈(adL o l).take i↔v∈o.take i:=by
 rw [awN,awN];have a0:=arG (o:=o) (j:=l) (by omega);have a1:=arG hl;constructor
 ·rintro ⟨j,h1,h2⟩
  rw [aik hl] at h2
  by_cases e1:j=l+1
  ·rw [if_pos e1] at h2;cases h2;exact ⟨l,by omega,a0⟩
  ·by_cases e2:j=l
   ·rw [if_neg e1,if_pos e2] at h2;cases h2;exact ⟨l+1,by omega,a1⟩
   ·rw [if_neg e1,if_neg e2] at h2;exact ⟨j,h1,h2⟩
 ·rintro ⟨j,h1,h2⟩
  by_cases e1:j=l+1
  ·subst e1;rw [a1] at h2;cases h2
   exact ⟨l,by omega,by rw [aik hl,if_neg (by omega),if_pos rfl]⟩
  ·by_cases e2:j=l
   ·subst e2;rw [a0] at h2;cases h2
    exact ⟨j+1,by omega,by rw [aik hl,if_pos rfl]⟩
   ·exact ⟨j,h1,by rw [aik hl,if_neg e1,if_neg e2];exact h2⟩
theorem akK {g:(Nat->Bool)->Bool} {v:Nat} (h:¬ ahP g v) (z:Nat->Bool) (b:Bool):g (upd z v b)=g z:=by
 have e1:∀ b c,g (upd z v b)=g (upd z v c):=fun b c=>by
  have:g (upd z v true)=g (upd z v false):=Classical.byContradiction fun e=>h ⟨z,e⟩
  cases b <;> cases c <;> simp_all
 rw [e1 b (z v),aCa]
def aD2 (K:KV) (x:Nat) (q:Nat × Nat):TV:=mkT K.vars fun w=>if w.testBit x then K.den q.2 fun v=>w.testBit v else K.den q.1 fun v=>w.testBit v
theorem anI {K:KV} (hk:K.Ok) {x:Nat} (hx:x<K.vars) {q:Nat × Nat} (h1:K.A.tk q.1=true) (h2:K.A.tk q.2=true) (y:Nat->Bool):(aD2 K x q).fn y=if y x then K.den q.2 y else K.den q.1 y:=by
 unfold aD2;rw [avr,aiq]
 have e:∀ {r:Nat},K.A.tk r=true->(K.den r fun v=>(idx K.vars y).testBit v)=K.den r y:=fun hr=>hk.den_low hr fun v hv=>by rw [aiq];simp [hv]
 rw [e h1,e h2];simp [hx]
theorem Nb.pair {K:KV} {l x y:Nat} (nb:Nb K l x y) {a d r:Nat} (ha:Deep K l a) (hd:Deep K l d) (hne:a≠d) (h2:2<=r) (ht:K.A.tk r=true) (he:∀ z,K.den r z=if z x then K.den d z else K.den a z):K.has3 x a d:=by
 obtain ⟨hx,hy,lx,ly,hxy⟩:=nb.facts;obtain ⟨p,v,hp,hpt,hv,hvl,t1,t2,avw⟩:=nb.ok.wf.node_at h2 ht
 have hvn:p.var.toNat=v:=by omega
 obtain ⟨v',hv',hd',hh,hno⟩:=nb.ok.node_hangs nb.un h2 ht;have evv:v'=v:=nb.ok.ord.pm.inj hv' hvl (by omega);subst evv
 have ev:v'=x:=by
  refine Classical.byContradiction fun aHR=>?_
  have hxl:¬ K.lev x<K.lev v':=fun hlt=>by
   refine hno x hx hlt ?_
   refine Classical.byContradiction fun hnx=>hne (KV.canon nb.ok.wf nb.ok.ord nb.un _ _ _ ha.1 hd.1 (Nat.le_refl _) fun z=>?_)
   have e1:=akK hnx z true;have e2:=akK hnx z false;have e3:=e1.trans e2.symm;rw [he,he,afj,afj,(nb.deep_den hd z true).1,(nb.deep_den ha z false).1] at e3
   simpa using e3.symm
  have hlt:K.lev v'<K.lev x:=by
   have:K.lev v'≠K.lev x:=fun e=>aHR (nb.ok.ord.pm.inj hvl hx e)
   omega
  obtain ⟨z,hz⟩:=hh;refine hz ?_;have a2:=ha.2;have d2:=hd.2;rw [he,he,anL z true (Ne.symm aHR),anL z false (Ne.symm aHR),KV.den_upd nb.ok.wf nb.ok.ord ha.1 hvl (by omega),KV.den_upd nb.ok.wf nb.ok.ord ha.1 hvl (by omega),KV.den_upd nb.ok.wf nb.ok.ord hd.1 hvl (by omega),KV.den_upd nb.ok.wf nb.ok.ord hd.1 hvl (by omega)]
 subst ev
 have g0:=fun z=>KV.den_lo nb.ok.wf nb.ok.ord h2 hp hpt z
 have g1:=fun z=>KV.den_hi nb.ok.wf nb.ok.ord h2 hp hpt z
 rw [hvn] at g0 g1;refine ⟨r,p,h2,hp,hpt,hv,KV.canon nb.ok.wf nb.ok.ord nb.un _ _ _ t1 ha.1 (Nat.le_refl _) fun z=>?_,KV.canon nb.ok.wf nb.ok.ord nb.un _ _ _ t2 hd.1 (Nat.le_refl _) fun z=>?_⟩
 ·rw [<- g0,he,afj,(nb.deep_den ha z false).1];rfl
 ·rw [<- g1,he,afj,(nb.deep_den hd z true).1];rfl
theorem aFS {K:KV} {l x y:Nat} (nb:Nb K l x y) {q:Nat × Nat} (h1:Deep K l q.1) (h2:Deep K l q.2) (hne:q.1≠q.2):ahP (aD2 K x q).fn x:=by
 obtain ⟨hx,_⟩:=nb.facts
 refine Classical.byContradiction fun hnx=>hne (KV.canon nb.ok.wf nb.ok.ord nb.un _ _ _ h1.1 h2.1 (Nat.le_refl _) fun z=>?_)
 have e1:=akK hnx z true;have e2:=akK hnx z false;have e3:=e1.trans e2.symm;rw [anI nb.ok hx h1.1 h2.1,anI nb.ok hx h1.1 h2.1,afj,afj,(nb.deep_den h2 z true).1,(nb.deep_den h1 z false).1] at e3
 simpa using e3.symm
theorem Agr.turned {K:KV} {M:MV} {l x y:Nat} {C:List CrV} {N:List (Nat × Nat)} (h:Agr K M) (nb:Nb K l x y) (hn:K.vars<=16) (CA:aiH K l x y C) (F:FrN K x (C.flatMap CrV.qs) N) (u:TV) :
  (u∈ag9 M.tabs (adL K.order l)->(∃ r,2<=r/\K.A.tk r=true/\K.tab r=u)\/∃ q,q∈N/\aD2 K x q=u)/\(∀ q,q∈N->aD2 K x q∈ag9 M.tabs (adL K.order l)):=by
 obtain ⟨hx,hy,lx,ly,hxy⟩:=nb.facts;have hk:=nb.ok;have hu:=nb.un;have pm:=hk.ord.pm;have hl:=nb.hl;have ol:=pm.ol
 have hl1:l+1<K.order.length:=by omega
 have hL:∀ t,t∈M.tabs->t.Ok/\t.n=K.vars:=h.roots.ok
 have ho:∀ v,v∈K.order->v<K.vars:=fun v hv=>pm.mem_order hv
 have ho':∀ v,v∈adL K.order l->v<K.vars:=fun v hv=>ho v (arv hl1 hv)
 have a0:K.order[l]?=some x:=by rw [<- nb.hx];exact arG (by omega)
 have a1:K.order[l+1]?=some y:=by rw [<- nb.hy];exact arG hl1
 have old:∀ u,u∈ag9 M.tabs K.order->∃ r,2<=r/\K.A.tk r=true/\K.tab r=u:=fun u hu'=>by
  have hu2:=hu';rw [<- h.same.od] at hu2;exact (h.mem hk hu hn).1 hu2
 have tk1:∀ v,v∈K.order.take (l+1)↔v∈K.order.take l\/v=x:=fun v=>by
  rw [List.take_add_one,a0];simp
 have tk2:∀ v,v∈(adL K.order l).take (l+1)↔v∈K.order.take l\/v=y:=fun v=>by
  rw [List.take_add_one,anO (Nat.le_refl _),aik hl1,if_neg (by omega),if_pos rfl,nb.hy];simp
 have nx:x∉K.order.take l:=fun hm=>by have:=(pm.mem_take.1 hm).2;omega
 have ny:y∉K.order.take l:=fun hm=>by have:=(pm.mem_take.1 hm).2;omega
 have mx:∀ (a z:Nat->Bool) (b:Bool),mixO (K.order.take (l+1)) (upd a x b) z=mixO (K.order.take l) a (upd z x b):=fun a z b=>by
  funext v
  simp only [mixO,tk1,upd]
  by_cases e:v=x
  ·subst e;simp [nx]
  ·simp [e]
 have my:∀ (a z:Nat->Bool),mixO ((adL K.order l).take (l+1)) a z=mixO (K.order.take l) a (upd z y (a y)):=fun a z=>by
  funext v
  simp only [mixO,tk2,upd]
  by_cases e:v=y
  ·subst e;simp [ny]
  ·simp [e]
 refine ⟨fun hm=>?_,fun q hq=>?_⟩
 ·obtain ⟨i,v,hi,uok,un,⟨t,ht,a,he⟩,hh⟩:=(aim hL ho').1 hm
  rw [aik hl1] at hi
  by_cases e1:i=l+1
  ·subst e1
   rw [if_pos rfl,nb.hx] at hi
   obtain rfl:x=v:=by simpa using hi
   obtain ⟨g,hg⟩ : ∃ g:(Nat->Bool)->Bool,∀ z,g z=t.fn (mixO (K.order.take l) a z):=⟨_,fun _=>rfl⟩
   have hug:∀ z,u.fn z=g (upd z y (a y)):=fun z=>by rw [he,my,hg]
   have hgx:ahP g x:=by
    refine Classical.byContradiction fun hnx=>?_
    obtain ⟨z,hz⟩:=hh;refine hz ?_
    have ec:∀ b,upd (upd z x b) y (a y)=upd (upd z y (a y)) x b:=fun b=>by
     funext w;simp only [upd]
     by_cases e1:w=y
     ·subst e1;simp [Ne.symm hxy]
     ·simp [e1]
    rw [hug,hug,ec,ec,akK hnx,akK hnx]
   have hgl:∀ z,(mkT K.vars fun w=>g fun v=>w.testBit v).fn z=g z:=fun z=>by
    rw [avr,hg,hg]
    refine TV.fn_same t fun v hv=>?_
    simp only [mixO]
    split
    ·rfl
    ·rw [aiq];rw [(hL t ht).2] at hv;simp [hv]
   obtain ⟨r,r2,rt,aWK⟩:=old (mkT K.vars fun w=>g fun v=>w.testBit v) ((aim hL ho).2 ⟨l,x,a0,amv _ hn,rfl,⟨t,ht,a,fun z=>by rw [hgl,hg]⟩,by
    obtain ⟨z,hz⟩:=hgx
    exact ⟨z,by rw [hgl,hgl];exact hz⟩⟩)
   have hrg:∀ z,K.den r z=g z:=fun z=>by rw [<- hk.tab_fn rt,aWK,hgl]
   have hur:∀ z,u.fn z=K.den r (upd z y (a y)):=fun z=>by rw [hug,hrg]
   obtain ⟨p,v,hp,hpt,hv,hvl,t1,t2,avw⟩:=hk.wf.node_at r2 rt
   by_cases hcr:K.Cross x y r
   ·obtain ⟨c,hc,rfl⟩:=List.mem_map.1 (CA.all r hcr)
    obtain ⟨p',_,_,_,_,_,F4⟩:=(CA.ok c hc).at_
    have hq:∃ q,q∈CrV.qs c/\∀ z,u.fn z=if z x then K.den q.2 z else K.den q.1 z:=by
     cases hb:a y with
     | false =>
      refine ⟨(c.a00,c.a10),by simp [CrV.qs],fun z=>?_⟩
      rw [hur,hb,F4.den,afj,anL z false hxy,(nb.deep_den F4.d10 z false).2,(nb.deep_den F4.d00 z false).2];rfl
     | true =>
      refine ⟨(c.a01,c.a11),by simp [CrV.qs],fun z=>?_⟩
      rw [hur,hb,F4.den,afj,anL z true hxy,(nb.deep_den F4.d11 z true).2,(nb.deep_den F4.d01 z true).2];rfl
    obtain ⟨q,hq,hqe⟩:=hq;have hqQ:q∈C.flatMap CrV.qs:=List.mem_flatMap.2 ⟨c,hc,hq⟩;obtain ⟨d1,d2⟩:=CA.deep hqQ
    have aPX:q.1≠q.2:=fun e=>by
     obtain ⟨z,hz⟩:=hh;refine hz ?_
     rw [hqe,hqe,e,(nb.deep_den d2 z true).1,(nb.deep_den d2 z false).1];simp
    by_cases h3:K.has3 x q.1 q.2
    ·left
     obtain ⟨s,ps,s2,hps,aSH,hsv,e1,e2⟩:=h3;have st:K.A.tk s=true:=aaU.tk_iff.2 ⟨ps,hps,aSH⟩;refine ⟨s,s2,st,hk.tab_eq hn st uok un fun z=>?_⟩;rw [hqe,KV.den_node hk.wf hk.ord s2 hps aSH,show ps.var.toNat=x by omega,e1,e2]
    ·right
     refine ⟨q,(F.iff q).2 ⟨hqQ,aPX,h3⟩,TV.fn_ext (amv _ hn) uok un.symm fun z=>?_⟩;rw [anI hk hx d1.1 d2.1,hqe]
   ·-- no crossing: it does not hang on y
    left;refine ⟨r,r2,rt,hk.tab_eq hn rt uok un fun z=>?_⟩;rw [hur]
    have hvx:v=x:=by
     have h5:K.lev v<=l:=by
      rw [<- avw]
      refine Classical.byContradiction fun h6=>?_
      obtain ⟨z,hz⟩:=hgx;refine hz ?_;rw [<- hrg,<- hrg,KV.den_upd hk.wf hk.ord rt hx (by omega),KV.den_upd hk.wf hk.ord rt hx (by omega)]
     have h6:¬ K.lev v<l:=fun h6=>by
      obtain ⟨v',hv',hd',⟨z,hz⟩,_⟩:=hk.node_hangs hu r2 rt;have evv:v'=v:=pm.inj hv' hvl (by omega);subst evv;refine hz ?_;rw [hrg,hrg,hg,hg]
      congr 1
      funext w
      simp only [mixO,upd]
      by_cases ew:w=v'
      ·subst ew;rw [if_pos (pm.mem_take.2 ⟨hvl,h6⟩),if_pos (pm.mem_take.2 ⟨hvl,h6⟩)]
      ·simp [ew]
     exact pm.inj hvl hx (by omega)
    subst hvx
    have k1:K.vI p.lo≠(y:Int):=fun e=>hcr ⟨r2,p,hp,hpt,hv,.inl e⟩
    have k2:K.vI p.hi≠(y:Int):=fun e=>hcr ⟨r2,p,hp,hpt,hv,.inr e⟩
    have hb:=hk.ord.below hk.wf r2 hp hpt;have g1:=nb.kid t1 (by omega) k1;have g2:=nb.kid t2 (by omega) k2;rw [KV.den_node hk.wf hk.ord r2 hp hpt,KV.den_node hk.wf hk.ord r2 hp hpt,show p.var.toNat=v by omega,anL z _ hxy,(nb.deep_den g1 z _).2,(nb.deep_den g2 z _).2]
  ·rw [if_neg e1] at hi
   by_cases e2:i=l
   ·subst e2
    rw [if_pos rfl,nb.hy] at hi
    obtain rfl:y=v:=by simpa using hi
    rw [anO (Nat.le_refl _)] at he;left;refine old u ?_
    by_cases hux:ahP u.fn x
    ·exact (aim hL ho).2 ⟨i,x,a0,uok,un,⟨t,ht,a,he⟩,hux⟩
    ·refine (aim hL ho).2 ⟨i+1,y,a1,uok,un,⟨t,ht,upd a x false,fun z=>?_⟩,hh⟩
     rw [mx,<- he,akK hux]
   ·rw [if_neg e2] at hi
    left;refine old u ((aim hL ho).2 ⟨i,v,hi,uok,un,⟨t,ht,a,fun z=>?_⟩,hh⟩);rw [he]
    congr 1
    rcases Nat.lt_or_ge i l with h5 | h5
    ·rw [anO (by omega)]
    ·exact aFR (aAK hl1 (by omega)) a z
 ·obtain ⟨hqQ,aPX,_⟩:=(F.iff q).1 hq
  obtain ⟨d1,d2⟩:=CA.deep hqQ;obtain ⟨c,hc,hm⟩:=List.mem_flatMap.1 hqQ;obtain ⟨p,hp,hpt,hv,_,_,F4⟩:=(CA.ok c hc).at_;have c2:2<=c.r:=(CA.ok c hc).cr.1;have ct:K.A.tk c.r=true:=aaU.tk_iff.2 ⟨p,hp,hpt⟩
  have atE:K.tab c.r∈ag9 M.tabs K.order:=by
   have:=(h.mem hk hu hn).2 ⟨c.r,c2,ct,rfl⟩
   rw [<- h.same.od];exact this
  obtain ⟨i,v,hi,_,_,⟨t,ht,a,he⟩,hh⟩:=(aim hL ho).1 atE
  have az8:∀ z,K.den c.r z=t.fn (mixO (K.order.take i) a z):=fun z=>by rw [<- hk.tab_fn ct,he]
  have hio:=pm.at_order hi
  have hdl:K.dep c.r=l:=by rw [nb.dep_at hp hv];exact lx
  have hil:i=l:=by
   have hx':ahP (K.den c.r) x:=by
    obtain ⟨v',hv',hd',hh',_⟩:=hk.node_hangs hu c2 ct;have:v'=x:=pm.inj hv' hx (by omega)
    subst this;exact hh'
   have h5:i<=l:=by
    refine Classical.byContradiction fun h6=>?_
    obtain ⟨z,hz⟩:=hx';refine hz ?_;rw [az8,az8]
    congr 1
    funext w
    simp only [mixO,upd]
    by_cases ew:w=x
    ·subst ew;rw [if_pos (pm.mem_take.2 ⟨hx,by omega⟩),if_pos (pm.mem_take.2 ⟨hx,by omega⟩)]
    ·simp [ew]
   have h6:¬ i<l:=fun h6=>by
    obtain ⟨z,hz⟩:=hh;refine hz ?_;rw [hk.tab_fn ct,hk.tab_fn ct,KV.den_upd hk.wf hk.ord ct hio.1 (by omega),KV.den_upd hk.wf hk.ord ct hio.1 (by omega)]
   omega
  subst hil
  have hb:∃ b,∀ z,(aD2 K x q).fn z=K.den c.r (upd z y b):=by
   simp only [CrV.qs,List.mem_cons,List.not_mem_nil,or_false] at hm
   rcases hm with rfl | rfl
   ·refine ⟨false,fun z=>?_⟩
    rw [anI hk hx d1.1 d2.1,F4.den,afj,anL z false hxy,(nb.deep_den F4.d10 z false).2,(nb.deep_den F4.d00 z false).2];rfl
   ·refine ⟨true,fun z=>?_⟩
    rw [anI hk hx d1.1 d2.1,F4.den,afj,anL z true hxy,(nb.deep_den F4.d11 z true).2,(nb.deep_den F4.d01 z true).2];rfl
  obtain ⟨b,hb⟩:=hb;refine (aim hL ho').2 ⟨i+1,x,by rw [aik hl1,if_pos rfl,nb.hx],amv _ hn,rfl,⟨t,ht,upd a y b,fun z=>?_⟩,aFS nb d1 d2 aPX⟩;rw [hb,az8,my,afj]
  congr 1
  funext w
  simp only [mixO,upd]
  by_cases ew:w=y
  ·subst ew;simp [ny]
  ·simp [ew]
theorem Agr.U {K:KV} {M:MV} {l x y:Nat} {C:List CrV} {N:List (Nat × Nat)} (h:Agr K M) (nb:Nb K l x y) (hn:K.vars<=16) (CA:aiH K l x y C) (F:FrN K x (C.flatMap CrV.qs) N):M.U l+2=K.A.used+N.length:=by
 obtain ⟨hx,hy,lx,ly,hxy⟩:=nb.facts;have hk:=nb.ok;have hu:=nb.un
 have nt:∀ q,q∈N->Deep K l q.1/\Deep K l q.2/\q.1≠q.2/\¬ K.has3 x q.1 q.2:=fun q hq=>by
  obtain ⟨h1,h2,h3⟩:=(F.iff q).1 hq;exact ⟨(CA.deep h1).1,(CA.deep h1).2,h2,h3⟩
 have atE:∀ u,u∈acw (M.lev.flatten++(ag5 (acw M.tabs) (adL M.order l)).flatten)↔u∈K.nodes.map K.tab++N.map (aD2 K x):=fun u=>by
  rw [afO,List.mem_append,List.mem_append,List.mem_map,List.mem_map];have ht:=h.turned nb hn CA F u
  have e1:u∈(ag5 (acw M.tabs) (adL M.order l)).flatten↔u∈ag9 M.tabs (adL K.order l):=by rw [h.same.od];rfl
  rw [e1];constructor
  ·rintro (hm | hm)
   ·obtain ⟨r,h1,h2,h3⟩:=(h.mem hk hu hn).1 hm
    exact .inl ⟨r,KV.mem_nodes.2 ⟨h1,h2⟩,h3⟩
   ·rcases ht.1 hm with ⟨r,h1,h2,h3⟩ | h1
    ·exact .inl ⟨r,KV.mem_nodes.2 ⟨h1,h2⟩,h3⟩
    ·exact .inr h1
  ·rintro (⟨r,h1,h2⟩ | ⟨q,h1,h2⟩)
   ·obtain ⟨a,b⟩:=KV.mem_nodes.1 h1
    exact .inl ((h.mem hk hu hn).2 ⟨r,a,b,h2⟩)
   ·right;rw [<- h2];exact (h.turned nb hn CA F u).2 q h1
 have hnd:(K.nodes.map K.tab++N.map (aD2 K x)).Nodup:=by
  rw [List.nodup_append];refine ⟨List.pairwise_map.2 (List.Pairwise.imp_of_mem (fun {a b} ha hb hne e=>hne (hk.tab_inj hu (KV.mem_nodes.1 ha).2 (KV.mem_nodes.1 hb).2 e)) K.nodes_nodup),List.pairwise_map.2 (List.Pairwise.imp_of_mem (fun {a b} ha hb hne e=>hne ?_) F.nd),fun s hs u hu' e=>?_⟩
  ·subst e
   obtain ⟨r,hr,rfl⟩:=List.mem_map.1 hs;obtain ⟨q,hq,he⟩:=List.mem_map.1 hu';obtain ⟨d1,d2,hne,hno⟩:=nt q hq;obtain ⟨r2,rt⟩:=KV.mem_nodes.1 hr;exact hno (nb.pair d1 d2 hne r2 rt fun z=>by rw [<- hk.tab_fn rt,<- he,anI hk hx d1.1 d2.1])
  ·obtain ⟨a1,a2,_⟩:=nt a ha
   obtain ⟨b1,b2,_⟩:=nt b hb
   have hf:∀ z,(if z x then K.den a.2 z else K.den a.1 z)=if z x then K.den b.2 z else K.den b.1 z:=fun z=>by rw [<- anI hk hx a1.1 a2.1,<- anI hk hx b1.1 b2.1,e]
   refine Prod.ext (KV.canon hk.wf hk.ord hu _ _ _ a1.1 b1.1 (Nat.le_refl _) fun z=>?_) (KV.canon hk.wf hk.ord hu _ _ _ a2.1 b2.1 (Nat.le_refl _) fun z=>?_)
   ·have:=hf (upd z x false)
    rw [afj,(nb.deep_den a1 z false).1,(nb.deep_den b1 z false).1] at this
    simpa using this
   ·have:=hf (upd z x true)
    rw [afj,(nb.deep_den a2 z true).1,(nb.deep_den b2 z true).1] at this
    simpa using this
 have h1:=List.Nodup.length_le_of_subset (aiI _) fun u hm=>(atE u).1 hm
 have h2:=List.Nodup.length_le_of_subset hnd fun u hm=>(atE u).2 hm
 have h3:=hk.nodes_len;rw [List.length_append,List.length_map,List.length_map] at h1 h2
 show (acw _).length+2=_
 omega
theorem awO {o:List Nat} {l:Nat} (hl:l+1<o.length):adL (adL o l) l=o:=by
 apply List.ext_getElem?
 intro i
 have hl':l+1<(adL o l).length:=by rw [air];exact hl
 have g0:(adL o l).getD l 0=o.getD (l+1) 0:=by rw [List.getD_eq_getElem?_getD,aik hl,if_neg (by omega),if_pos rfl];rfl
 have g1:(adL o l).getD (l+1) 0=o.getD l 0:=by rw [List.getD_eq_getElem?_getD,aik hl,if_pos rfl];rfl
 rw [aik hl',g0,g1]
 by_cases e1:i=l+1
 ·subst e1;rw [if_pos rfl,arG hl]
 ·by_cases e2:i=l
  ·subst e2;rw [if_neg e1,if_pos rfl,arG (by omega)]
  ·rw [if_neg e1,if_neg e2,aik hl,if_neg e1,if_neg e2]
def MV.Uo (M:MV) (o:List Nat) (l:Nat):Nat:=(acw ((ag5 (acw M.tabs) o).flatten++(ag5 (acw M.tabs) (adL o l)).flatten)).length
theorem MV.Uo_turn (M:MV) {o:List Nat} {l:Nat} (hl:l+1<o.length):M.Uo (adL o l) l=M.Uo o l:=by
 unfold MV.Uo;rw [awO hl];refine Nat.le_antisymm (List.Nodup.length_le_of_subset (aiI _) fun u hu=>?_) (List.Nodup.length_le_of_subset (aiI _) fun u hu=>?_)
 ·rw [afO,List.mem_append] at hu ⊢;exact hu.symm
 ·rw [afO,List.mem_append] at hu ⊢;exact hu.symm
def MV.fitT (M:MV):List Nat->List Nat->Prop
 | [],_=>True
 | l::r,o=>l+2<=M.n/\2+M.Uo o l<=M.c/\M.fitT r (adL o l)
def MV.TrFit (M:MV):Prop:=M.fitT M.trail.reverse M.order
theorem MV.fitT_same {M M':MV} (h1:M'.n=M.n) (h2:M'.c=M.c) (h3:M'.held=M.held):∀ (r o:List Nat),M.fitT r o->M'.fitT r o
 | [],_,_=>trivial
 | l::r,o,⟨a,b,c⟩=>by
  have ht:M'.tabs=M.tabs:=by unfold MV.tabs;rw [h3]
  exact ⟨by rw [h1];exact a,by unfold MV.Uo;rw [h2,ht];exact b,MV.fitT_same h1 h2 h3 r _ c⟩
def MV.undo (M:MV):MV:={ M with order:=adL M.order (M.trail.getLastD 0),trail:=M.trail.dropLast }
theorem MV.exch_yes {M:MV} {l:Int} (h:M.exchE l=0):0<=l/\l.toNat+2<=M.n/\2+M.U l.toNat<=M.c/\M.exch l={ M with order:=adL M.order l.toNat,trail:=M.trail++[l.toNat] }:=by
 refine ⟨?_,?_,?_,by unfold MV.exch;rw [if_pos h]⟩
 all_goals
  unfold MV.exchE at h
  split at h
  ·cases h
  ·rename_i h1
   split at h
   ·cases h
   ·omega
theorem MV.exch_no {M:MV} {l:Int} (h:M.exchE l≠0):M.exch l=M:=by unfold MV.exch;rw [if_neg h]
theorem MV.TrFit.exch {M:MV} (h:M.TrFit) (ho:M.order.length=M.n) (l:Int):(M.exch l).TrFit:=by
 by_cases he:M.exchE l=0
 ·obtain ⟨h0,h1,h2,e⟩:=MV.exch_yes he
  rw [e]
  show MV.fitT _ (M.trail++[l.toNat]).reverse (adL M.order l.toNat)
  rw [List.reverse_append,List.reverse_singleton,List.singleton_append];refine ⟨h1,?_,?_⟩
  ·show 2+M.Uo (adL M.order l.toNat) l.toNat<=M.c
   rw [M.Uo_turn (by omega)];exact h2
  ·rw [awO (by omega)]
   exact MV.fitT_same (M:=M) (M':={ M with order:=adL M.order l.toNat,trail:=M.trail++[l.toNat] }) rfl rfl rfl _ _ h
 ·rw [MV.exch_no he];exact h
theorem aD3 {t:List Nat} (h:t≠[]):t=t.dropLast++[t.getLastD 0]:=by
 rw [List.getLastD_eq_getLast?,List.getLast?_eq_some_getLast h];exact (List.dropLast_concat_getLast h).symm
theorem MV.TrFit.last {M:MV} (h:M.TrFit) (hne:M.trail≠[]):M.trail.getLastD 0+2<=M.n/\2+M.U (M.trail.getLastD 0)<=M.c/\M.undo.TrFit:=by
 have hs:=aD3 hne;unfold MV.TrFit at h;generalize M.trail.getLastD 0=l at hs h ⊢;rw [hs,List.reverse_append,List.reverse_singleton,List.singleton_append] at h;obtain ⟨a,b,c⟩:=h;refine ⟨a,b,?_⟩
 show MV.fitT _ M.trail.dropLast.reverse (adL M.order (M.trail.getLastD 0))
 have e:M.trail.getLastD 0=l:=by rw [hs];simp
 rw [e];exact MV.fitT_same (M:=M) (M':=M.undo) rfl rfl rfl _ _ c
def MV.live (M:MV):Nat:=M.lev.flatten.length
end Go.Proofs.YtdackeldhdchaaaGreat
namespace Go.Proofs.YtdackeldhdchaaaGreat
open Go.RowKit Go.Maps Go.ChangeMaps Go.WideShapes
theorem MV.Fit.new {n c:Nat} (hn:n<=8) (hc:c<=1048576):(MV.new n c).Fit :=
 ⟨by simp [MV.new],hn,by simp [MV.new];exact hn,fun x hx=>by simpa [MV.new] using hx,fun t ht=>by simp [MV.new,MV.tabs] at ht,hc⟩
structure alg (w:World) (k:IntKind) (a:Option Addr) (n:Nat) (zs:List Int):Prop where
 len:zs.length=n
 mx:n<=maxLen
 at_:∀ i,i<n->∃ x,a=some x/\w.cell? (x.add i)=some (.int k (zs.getD i 0))
theorem alg.keep0 {w w':World} {k:IntKind} {a:Option Addr} {n:Nat} {zs:List Int} (h:alg w k a n zs) (u:Upd [] w w'):alg w' k a n zs :=
 ⟨h.len,h.mx,fun i hi=>by obtain ⟨x,e,hc⟩:=h.at_ i hi;exact ⟨x,e,u.cell0 hc⟩⟩
theorem Fro.cell {n0:Nat} {w w':World} (f:Fro n0 w w') {a:Addr} {v:Value} (h:w.cell? a=some v) (ha:a.block<n0):w'.cell? a=some v :=
 (World.cell?_of_block (f.block _ ha (World.block_lt_of_cell? _ _ h))).trans h
structure KM (K:KV) (M:MV):Prop where
 agr:Agr K M
 fit:M.Fit
 tr:K.trail=M.trail
 tf:M.TrFit
theorem KM.n16 {K:KV} {M:MV} (h:KM K M):K.vars<=16:=by have:=h.fit.n6;rw [h.agr.same.n] at this;omega
theorem KM.len {K:KV} {M:MV} (h:KM K M) (hk:K.Ok):M.order.length=M.n:=by rw [h.agr.same.od,h.agr.same.n];exact hk.ord.pm.ol
theorem KV.Ext.trail (K:KV) (t:List Nat):K.Ext { K with trail:=t }:=⟨fun _ _ h _=>h,rfl,rfl,rfl,rfl⟩
theorem Agr.exch {K K1:KV} {M:MV} {l:Nat} {t:List Nat} (h:Agr K M) (hk0:K.Ok) (hk:K1.Ok) (X:aCs K l K1):Agr { K1 with trail:=t } { M with order:=adL M.order l,trail:=t }:=by
 refine ⟨⟨?_,h.same.n.trans X.vr.symm⟩,h.c.trans X.pl.symm,h.nd,fun u c hm=>?_,fun r hr=>?_⟩
 ·show adL M.order l=K1.order
  rw [X.od,h.same.od];rfl
 ·obtain ⟨h1,h2,r,h3,h4,h5,h6,h7⟩:=h.hl u c hm
  have hh:K1.hold r=c:=by rw [X.hd];exact h5
  have ht:=(hk.wf.ht r (by rw [hh];exact h6)).2;exact ⟨h1,h2.trans X.vr.symm,r,h3,ht,hh,h6,fun y=>by rw [(KV.Ext.trail K1 t).den hk.wf y ht,X.den r h4 ht];exact h7 y⟩
 ·have hr':0<K1.hold r:=hr
  have ht:=(hk.wf.ht r hr').2;rw [X.hd] at hr';obtain ⟨u,c,h1,h2,h3⟩:=h.lh r hr';refine ⟨u,c,h1,by show K1.hold r=c;rw [X.hd];exact h2,fun y=>?_⟩
  rw [(KV.Ext.trail K1 t).den hk.wf y ht,X.den r (hk0.wf.ht r hr').2 ht];exact h3 y
theorem MV.Fit.exch {M:MV} (h:M.Fit) {l:Nat} (hl:l+1<M.order.length) (t:List Nat):({ M with order:=adL M.order l,trail:=t }:MV).Fit :=
 ⟨h.hl,h.n6,by show (adL _ _).length<=8;rw [air];exact h.ol,fun x hx=>h.on x (arv hl hx),h.tn,h.cb⟩
structure aps (K K':KV):Prop where
 vr:K'.vars=K.vars
 hd:∀ r,K'.hold r=K.hold r
 den:∀ r,0<K.hold r\/r<2->∀ z,K'.den r z=K.den r z
theorem aps.refl (K:KV):aps K K:=⟨rfl,fun _=>rfl,fun _ _ _=>rfl⟩
theorem aps.trans {A B C:KV} (h:aps A B) (k:aps B C):aps A C :=
 ⟨k.vr.trans h.vr,fun r=>(k.hd r).trans (h.hd r),fun r hr z=>(k.den r (by rw [h.hd];exact hr) z).trans (h.den r hr z)⟩
theorem aCs.stay {K K1:KV} {l:Nat} {t:List Nat} (X:aCs K l K1) (hk0:K.Ok) (hk:K1.Ok):aps K { K1 with trail:=t }:=by
 refine ⟨X.vr,X.hd,fun r hr z=>?_⟩
 rcases hr with hr | hr
 ·have ht:=(hk.wf.ht r (by rw [X.hd];exact hr)).2
  rw [(KV.Ext.trail K1 t).den hk.wf z ht];exact X.den r (hk0.wf.ht r hr).2 ht z
 ·rw [KV.den_const _ hr,KV.den_const _ hr]
structure aOo (b:Nat) (K:KV) (F:List Nat) (M':MV) (w w':World):Prop where
 ex:∃ (K':KV) (F':List Nat),ad1 w' b K' F'/\KM K' M'/\aps K K'/\Upd F w w'/\Sub F w F'
theorem KV.Ok.nb {K:KV} (hk:K.Ok) (hu:K.Uni) {l:Nat} (hl:l+2<=K.vars):Nb K l (K.order.getD l 0) (K.order.getD (l+1) 0):=⟨hk,hu,hl,rfl,rfl⟩
theorem aGQ (b:Nat) (l:Int) (K:KV) (F:List Nat) (M:MV) (w:World) (h:ad1 w b K F) (hm:KM K M) (ht:M.trail.length<=1000000) :
  Calls Tryz.prog 27 #[.pointer (some ⟨b,0,none⟩),.int .i64 l] w fun e w'=>e=.returned (.int .i64 (M.exchE l))/\aOo b K F (M.exch l) w w':=by
 have hu:=h.uni;obtain ⟨T,q,hk,rfl⟩:=h;refine (aAI b l K T q w hk (by rw [hm.tr];exact ht)).mono ?_;rintro e w' hE;obtain ⟨code,K',T',q',rfl,hk',hu',hs',hc⟩:=hE.ex;have hn:=hm.agr.same.n
 rcases hc with ⟨rfl,h1,rfl⟩ | ⟨n,rfl,h2,C,N,CA,F,hc⟩
 ·have he:M.exchE l=1:=by unfold MV.exchE;rw [if_pos (by rw [hn];exact h1)]
  exact ⟨by rw [he],K',_,⟨T',q',hk',rfl⟩,by rw [MV.exch_no (by rw [he];omega)];exact hm,aps.refl _,hu',hs'⟩
 ·have hU:=hm.agr.U (hk.ok.nb hu h2) hm.n16 CA F
  have hcc:=hm.agr.c
  rcases hc with ⟨rfl,h3,rfl⟩ | ⟨rfl,h3,K1,X,_,rfl⟩
  ·have he:M.exchE (n:Int)=9:=by unfold MV.exchE;rw [if_neg (by omega),Int.toNat_natCast,if_pos (by omega)]
   exact ⟨by rw [he],K',_,⟨T',q',hk',rfl⟩,by rw [MV.exch_no (by rw [he];omega)];exact hm,aps.refl _,hu',hs'⟩
  ·have he:M.exchE (n:Int)=0:=by unfold MV.exchE;rw [if_neg (by omega),Int.toNat_natCast,if_neg (by omega)]
   have hk1:K1.Ok:=⟨⟨hk'.ok.wf.ok,hk'.ok.wf.len,hk'.ok.wf.ul,hk'.ok.wf.tu,hk'.ok.wf.ht,hk'.ok.wf.hm,hk'.ok.wf.eq,hk'.ok.wf.pt,hk'.ok.wf.cl,hk'.ok.wf.vr,hk'.ok.wf.vs⟩,hk'.ok.pos,hk'.ok.ord.same rfl rfl rfl rfl,fun t ht'=>hk'.ok.tl t (by show t∈K1.trail++[n];simp [ht'])⟩;have hol:=hk.ok.ord.pm.ol
   have e1:M.exch (n:Int)={ M with order:=adL M.order n,trail:=M.trail++[n] }:=by
    obtain ⟨_,_,_,e⟩:=MV.exch_yes he
    rw [Int.toNat_natCast] at e;exact e
   have htr:K1.trail++[n]=M.trail++[n]:=by rw [X.tr,hm.tr]
   refine ⟨by rw [he],K1.addT n,_,⟨T',q',hk',rfl⟩,⟨?_,?_,?_,hm.tf.exch (hm.len hk.ok) _⟩,X.stay hk.ok hk1,hu',hs'⟩
   ·rw [e1,<- htr];exact hm.agr.exch hk.ok hk1 X
   ·rw [e1];exact hm.fit.exch (by rw [hm.len hk.ok,hn];omega) _
   ·rw [e1];exact htr
theorem aM4 (b:Nat) (K:KV) (F:List Nat) (M:MV) (w:World) (h:ad1 w b K F) (hm:KM K M) (ht:M.trail.length<=1000000) (hne:M.trail≠[]) :
  Calls Tryz.prog 60 #[.pointer (some ⟨b,0,none⟩)] w fun e w'=>e=.returned (.tuple #[.int .i64 (M.trail.getLastD 0:Nat),.int .i64 0])/\aOo b K F M.undo w w':=by
 have hu:=h.uni;obtain ⟨T,q,hk,rfl⟩:=h;obtain ⟨t1,t2,t3⟩:=hm.tf.last hne;have hn:=hm.agr.same.n;have hcc:=hm.agr.c;refine (aHN b K T q w hk (by rw [hm.tr];exact ht) (fun _ C N CA F=>?_)).mono ?_
 ·rw [hm.tr] at CA F
  have hU:=hm.agr.U (hk.ok.nb hu (by omega)) hm.n16 CA F;omega
 ·rintro e w' hE
  obtain ⟨K',T',q',hk',hu',hs',hc⟩:=hE.ex
  rcases hc with ⟨h1,_⟩ | ⟨_,rfl,K1,X,rfl⟩
  ·rw [hm.tr] at h1;exact absurd h1 hne
  ·rw [hm.tr] at X
   have hk1:K1.Ok:=⟨⟨hk'.ok.wf.ok,hk'.ok.wf.len,hk'.ok.wf.ul,hk'.ok.wf.tu,hk'.ok.wf.ht,hk'.ok.wf.hm,hk'.ok.wf.eq,hk'.ok.wf.pt,hk'.ok.wf.cl,hk'.ok.wf.vr,hk'.ok.wf.vs⟩,hk'.ok.pos,hk'.ok.ord.same rfl rfl rfl rfl,fun t ht'=>by rw [X.tr] at ht';rw [X.vr];exact hk.ok.tl t ht'⟩
   have htr:K1.trail.dropLast=M.trail.dropLast:=by rw [X.tr,hm.tr]
   refine ⟨by rw [hm.tr],K1.cutT,_,⟨T',q',hk',rfl⟩,⟨?_,?_,htr,t3⟩,X.stay hk.ok hk1,hu',hs'⟩
   ·show Agr { K1 with trail:=K1.trail.dropLast } { M with order:=adL M.order (M.trail.getLastD 0),trail:=M.trail.dropLast }
    rw [<- htr];exact hm.agr.exch hk.ok hk1 X
   ·exact hm.fit.exch (by rw [hm.len hk.ok,hn];omega) _
theorem KM.live {K:KV} {M:MV} (h:KM K M) (hk:K.Ok) (hu:K.Uni):(K.A.used:Int)-2=(M.live:Nat):=by
 have:=h.agr.used hk hu h.n16
 unfold MV.live;omega
def MV.lvl (M:MV) (v:Nat):Nat:=M.order.idxOf v
theorem MV.lvl_at {M:MV} {v:Nat} (h:v∈M.order):M.lvl v<M.order.length/\M.order[M.lvl v]?=some v:=by
 have h1:M.order.idxOf v<M.order.length:=List.idxOf_lt_length_iff.2 h;exact ⟨h1,by unfold MV.lvl;rw [List.getElem?_eq_getElem h1,List.getElem_idxOf]⟩
theorem KM.lvl {K:KV} {M:MV} (h:KM K M) (hk:K.Ok) {v:Nat} (hv:v<M.n):K.lev v=M.lvl v/\M.lvl v<M.n/\M.order[M.lvl v]?=some v:=by
 have hn:=h.agr.same.n;have ho:=h.agr.same.od;have hl:=h.len hk;have hol:=hk.ord.pm.ol;obtain ⟨l1,l2⟩:=hk.ord.pm.lo v (by omega)
 have hm:v∈M.order:=by
  rw [ho,<- l2,List.getD_eq_getElem?_getD,List.getElem?_eq_getElem (by omega)];exact List.getElem_mem _
 obtain ⟨h1,h2⟩:=MV.lvl_at hm;have h3:=hk.ord.pm.oo (M.lvl v) (by omega);rw [<- ho,List.getD_eq_getElem?_getD,h2] at h3;exact ⟨h3.2,by omega,h2⟩
theorem amf {x:World} {B a j:Nat} {v0 v1:Value} (h:x.cell? ⟨B,0,none⟩=some v0/\x.cell? ⟨B,1,none⟩=some v1) (hne:B≠a) (u:Value):(x.setCell ⟨a,j,none⟩ u).cell? ⟨B,0,none⟩=some v0/\(x.setCell ⟨a,j,none⟩ u).cell? ⟨B,1,none⟩=some v1:=by
 have hb:(x.setCell ⟨a,j,none⟩ u).heap[B]?=x.heap[B]?:=acb hne;exact ⟨(World.cell?_of_block (a:=⟨B,0,none⟩) hb).trans h.1,(World.cell?_of_block (a:=⟨B,1,none⟩) hb).trans h.2⟩
theorem aef.lt {w:World} {m:Nat} {M:MV} {p:acd} {Z:List Nat} (h:aef w m M p Z):∀ k,k∈p.all m->k<w.heap.size:=fun k hk=>by
 rcases acd.mem.1 hk with rfl | h1 | h1 | h1
 ·exact aa4 h.blk
 ·exact (h.os.lt k h1).2
 ·obtain ⟨xs,hr⟩:=h.hs.row;exact (hr.lt k h1).2
 ·exact (h.ts.lt k h1).2
theorem MV.TrFit.nil {M:MV} (h:M.trail=[]):M.TrFit:=by
 unfold MV.TrFit;rw [h];exact trivial
def MV.ansE (M:MV) (t:TV):Int:=if 65535<=M.holds t then 8 else if M.fits [t] then 0 else 9
def MV.ans (M:MV) (t:TV):MV:=if M.ansE t=0 then { M.hold1 t with trail:=[] } else M
theorem Agr.retrail {K:KV} {M:MV} (h:Agr K M) (t:List Nat):Agr K { M with trail:=t }:=⟨⟨h.same.od,h.same.n⟩,h.c,h.nd,h.hl,h.lh⟩
theorem MV.Fit.retrail {M:MV} (h:M.Fit) (t:List Nat):MV.Fit { M with trail:=t }:=⟨h.hl,h.n6,h.ol,h.on,h.tn,h.cb⟩
theorem aPY {o:List Nat} {v i:Nat} (h:i<o.idxOf v):o[i]?≠some v:=by
 intro e
 have h1:i<o.length:=(List.getElem?_eq_some_iff.1 e).1;have h2:=List.not_of_lt_findIdx (xs:=o) (p:=(· == v)) (i:=i) (by unfold List.idxOf at h;exact h);rw [List.getElem?_eq_getElem h1] at e
 simp only [Option.some.injEq] at e
 simp [e] at h2
theorem aD4 (m v:Nat) (M:MV) (p:acd) (Z:List Nat) (w:World) (h:aef w m M p Z) (hv:v∈M.order) (ho:M.order.length<=64) :
  Calls Tryz.prog 65 #[.pointer (some ⟨m,0,none⟩),.int .i64 v] w fun e w'=>e=.returned (.int .i64 (M.lvl v))/\w'=w:=by
 obtain ⟨h1,h2⟩:=MV.lvl_at hv;have hos:=h.os;obtain ⟨oa,oc,hov,_⟩:=abI hos;rw [hov] at hos;obtain ⟨g,rfl⟩:=aeP hos (by omega);obtain ⟨_,_,c2,_,_⟩:=h.cells;rw [hov] at c2;have HOS:=Lib.hid hos
 have HNE:Hid (∀ i,i<M.lvl v->M.order[i]?≠some v):=fun i hi=>aPY hi
 have HAT:=Lib.hid h2;generalize M.lvl v=L at *;clear h hos hov h2 hv
 go_enter Tryz.func65,Tryz.ntmps65
 go_wp2_with fail
 go_loopg [12] (L:Nat) (fun gg s12 wr=>∃ i:Nat,L-i=gg/\i<=L/\s12=.int .i64 i/\wr=w)
 case atStart=>exact ⟨0,by omega,by omega,rfl,rfl⟩
 case round =>
  obtain ⟨i,rfl,hi,rfl,rfl⟩:=hrel
  have hil:(i:Int)<(M.order.length:Int):=by omega
  obtain ⟨x,hx⟩ : ∃ x,M.order[i]?=some x:=⟨_,List.getElem?_eq_getElem (by omega)⟩;have cx:=abf HOS.out (j:=i) (u:=.int .i64 x) (by simp [acf,hx])
  by_cases e:i=L
  ·subst e
   rw [HAT.out] at hx;cases hx;go_wp2_with fail;go_ret;exact ⟨rfl,rfl⟩
  ·have hne:¬ (x:Int)=(v:Int):=fun e2=>HNE.out i (by omega) (by rw [hx];congr 1;omega)
   have aHR:((x:Int) == (v:Int))=false:=by simpa using hne
   clear hx;go_wp2_with fail
   go_roundg (L-(i+1))
   case measure=>omega
   case rel=>exact ⟨i+1,rfl,by omega,by simp,rfl⟩
theorem atO (m:Nat) (M:MV) (p:acd) (Z:List Nat) (w:World) (h:aef w m M p Z) (hZ:∀ k,k∈Z->k<w.heap.size) (hf:M.Fit) :
  Calls Tryz.prog 125 #[.pointer (some ⟨m,0,none⟩)] w fun e w'=>e=.returned (.int .i64 M.live)/\Upd [] w w':=by
 have HTB:=Lib.hid (anG m M p Z w h hZ (by have:=hf.hl;omega))
 have HSZ:Hid (∀ (x:World) (n0:Nat) (v:Value),Upd [] w x->TLs x n0 Z v M.tabs->Calls Tryz.prog 174 #[.pointer (some ⟨m,0,none⟩),v] x fun e w'=>e=.returned (.int .i64 M.live)/\Upd [] x w'):=fun x n0 v u hv =>
  ayy m n0 M p Z v M.tabs x (h.keep0 u) (fun k hk=>Nat.lt_of_lt_of_le (hZ k hk) u.size) hf hv (fun t ht=>(hf.tn t ht).2) (by have:=hf.tl;omega)
 generalize M.live=L at *;clear h hZ hf
 go_enter Tryz.func125,Tryz.ntmps125
 go_wp2_with fail;refine HTB.out.mono ?_;rintro e w1 hE;obtain ⟨v,rfl,hT,hu⟩:=hE.ex;have HT:=Lib.hid (And.intro hT hu);clear hE hT hu HTB;go_wp2_with fail;refine (HSZ.out _ _ _ HT.out.2 HT.out.1).mono ?_;rintro e w2 ⟨rfl,hu⟩;have HU:=Lib.hid (HT.out.2.trans hu);clear hu HSZ;go_wp2_with fail;go_ret;exact ⟨rfl,HU.out⟩
theorem agq.trans {m:Nat} {M1 M2:MV} {p:acd} {Z:List Nat} {w w1 w2:World} (h:agq m p Z M1 w w1) (k:∀ p1,aef w1 m M1 p1 (Z++p1.all m)->agq m p1 (Z++p1.all m) M2 w1 w2):agq m p Z M2 w w2:=by
 obtain ⟨p1,h1,u1,s1⟩:=h.ex;obtain ⟨p2,h2,u2,s2⟩:=(k p1 h1).ex;refine ⟨p2,h2.apart (fun k hk=>.inl ?_) (fun k hk=>List.mem_append.2 (.inr hk)),u1.then u2 (fun k hk=>s1 k hk),fun k hk=>?_⟩
 ·rcases List.mem_append.1 hk with h | h
  ·exact List.mem_append.2 (.inl (List.mem_append.2 (.inl h)))
  ·exact List.mem_append.2 (.inr h)
 ·rcases s2 k hk with h | h
  ·exact s1 k h
  ·right;have:=u1.size;omega
end Go.Proofs.YtdackeldhdchaaaGreat
