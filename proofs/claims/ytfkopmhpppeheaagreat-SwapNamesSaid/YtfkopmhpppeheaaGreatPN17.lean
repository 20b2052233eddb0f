import Derived.Test.YtfkopmhpppeheaaGreatPN16
import Derived.Test.YtfkopmhpppeheaaGreatPN1
import Derived.BigRegion
set_option maxRecDepth 100000
set_option maxHeartbeats 3200000
namespace Go.Proofs.YtfkopmhpppeheaaGreat
open Go.RowKit Go.Maps Go.ChangeMaps Go.WideShapes
theorem af.cell0 {w w':World} (u:af [] w w') {a:Addr} {v:Value} (h:w.cell? a=some v):w'.cell? a=some v:=(u.cell (World.block_lt_of_cell? _ _ h) (by simp)).trans h
structure MV where
 n:Nat
 c:Nat
 order:List Nat
 held:List (TV × Nat)
 trail:List Nat
def MV.tabs (M:MV):List TV:=M.held.map (·.1)
def oK (H:List (TV × Nat)) (cs:List Value):List Value:=(H.zip cs).flatMap fun p=>[Value.int .i64 p.1.1.n,p.2,.int .i64 p.1.2]
theorem yM {H:List (TV × Nat)} {cs:List Value} (hl:cs.length=H.length) {i:Nat} {h:TV × Nat} {c:Value} (ht:H[i]?=some h) (hc:cs[i]?=some c):(oK H cs)[i*3]?=some (.int .i64 h.1.n)/\(oK H cs)[i*3+1]?=some c/\(oK H cs)[i*3+2]?=some (.int .i64 h.2):=by
 induction H generalizing cs i with
 | nil=>simp at ht
 | cons a L ih =>
  cases cs with
  | nil=>simp at hl
  | cons d cs =>
   have Xn:cs.length=L.length:=by simpa using hl
   have e:oK (a::L) (d::cs)=Value.int .i64 a.1.n::d::.int .i64 a.2::oK L cs:=rfl
   cases i with
   | zero=>simp at ht hc;subst ht hc;rw [e];exact ⟨rfl,rfl,rfl⟩
   | succ i =>
    simp at ht hc
    obtain ⟨h1,h2,h3⟩:=ih Xn ht hc;rw [e]
    have e1:(i+1)*3=i*3+1+1+1:=by omega
    have e2:(i+1)*3+1=i*3+1+1+1+1:=by omega
    have e3:(i+1)*3+2=i*3+2+1+1+1:=by omega
    refine ⟨?_,?_,?_⟩
    ·rw [e1];simpa using h1
    ·rw [e2];simpa using h2
    ·rw [e3];simpa using h3
theorem MQ {H:List (TV × Nat)} {cs:List Value} (hl:cs.length=H.length) (h:TV × Nat) (c:Value):oK (H++[h]) (cs++[c])=oK H cs++[Value.int .i64 h.1.n,c,.int .i64 h.2]:=by
 unfold oK
 rw [List.zip_append hl.symm,List.flatMap_append];rfl
structure bG where
 ov:Value
 hv:Value
 tv:Value
def bG.all (p:bG) (m:Nat):List Nat:=m::(p.ov.ownBlock.toList++(p.hv.ownBlock.toList++p.tv.ownBlock.toList))
theorem bG.mem {p:bG} {m k:Nat}:k∈p.all m↔k=m\/p.ov.ownBlock=some k\/p.hv.ownBlock=some k\/p.tv.ownBlock=some k:=by
 simp [bG.all]
structure LC (w:World) (Z:List Nat) (v:Value) (H:List (TV × Nat)):Prop where
 ex:∃ cs:List Value,cs.length=H.length/\w.ownsRow 0 264 3 v H.length (oK H cs)/\∀ (i:Nat) (h:TV × Nat) (c:Value),H[i]?=some h->cs[i]?=some c->jG w Z c h.1
structure fH (w:World) (m:Nat) (M:MV) (p:bG) (Z:List Nat):Prop where
 blk:w.heap[m]?=some (.cells #[.int .i64 M.n,.int .i64 M.c,p.ov,p.hv,p.tv] 53 (0,0))
 os:w.ownsRow 0 3 1 p.ov M.order.length (aQ M.order)
 hs:LC w Z p.hv M.held
 ts:w.ownsRow 0 3 1 p.tv M.trail.length (aQ M.trail)
 ne:∀ k,p.ov.ownBlock=some k->p.tv.ownBlock≠some k
 sz:∀ k,k∈p.all m->k∈Z
theorem LC.row {w:World} {Z:List Nat} {v:Value} {H:List (TV × Nat)} (h:LC w Z v H):∃ xs,w.ownsRow 0 264 3 v H.length xs:=by
 obtain ⟨cs,_,hr,_⟩:=h.ex;exact ⟨_,hr⟩
theorem LC.keep {w w':World} {Z S:List Nat} {v:Value} {H:List (TV × Nat)} (h:LC w Z v H) (u:af S w w') (hS:∀ k,k∈S->k∈Z\/w.heap.size<=k) (hv:∀ k,v.ownBlock=some k->k∉S):LC w' Z v H:=by
 obtain ⟨cs,h1,h2,h3⟩:=h.ex;exact ⟨cs,h1,ai h2 fun k hk=>u.block k (h2.lt k hk).2 (hv k hk),fun i t c ht hc=>(h3 i t c ht hc).keep u hS⟩
theorem LC.apart {w:World} {Z Z':List Nat} {v:Value} {H:List (TV × Nat)} (h:LC w Z v H) (hs:Sub Z w Z'):LC w Z' v H:=by
 obtain ⟨cs,h1,h2,h3⟩:=h.ex;exact ⟨cs,h1,h2,fun i t c ht hc=>(h3 i t c ht hc).apart hs⟩
theorem LC.form {w:World} {Z:List Nat} {v:Value} {H:List (TV × Nat)} (h:LC w Z v H):∃ (a:Option Addr) (c:Nat),v=.slice a H.length c/\(0<H.length->∃ g,a=some ⟨g,0,none⟩):=by
 obtain ⟨xs,hr⟩:=h.row;obtain ⟨a,c,hv,hh⟩:=aj hr;refine ⟨a,c,hv,fun hp=>?_⟩
 rcases hh with ⟨_,h0,_⟩ | hh
 ·omega
 ·exact hh
theorem LC.at_ {w:World} {n' cp g:Nat} {Z:List Nat} {H:List (TV × Nat)} (h:LC w Z (.slice (some ⟨g,0,none⟩) n' cp) H) {i:Nat} {t:TV × Nat} (ht:H[i]?=some t) :
  ∃ c,w.cell? ⟨g,i*3,none⟩=some (.int .i64 t.1.n)/\w.cell? ⟨g,i*3+1,none⟩=some c/\w.cell? ⟨g,i*3+2,none⟩=some (.int .i64 t.2)/\jG w Z c t.1:=by
 obtain ⟨cs,h1,h2,h3⟩:=h.ex
 have fF:i<H.length:=by
  by_cases e:i<H.length
  ·exact e
  ·rw [List.getElem?_eq_none (by omega)] at ht;cases ht
 have hc:cs[i]?=some (cs[i]'(by omega)):=List.getElem?_eq_getElem (by omega);obtain ⟨e1,e2,e3⟩:=yM h1 ht hc;exact ⟨_,au h2 e1,au h2 e2,au h2 e3,h3 i t _ ht hc⟩
theorem fH.keep {w w':World} {m:Nat} {M:MV} {p:bG} {Z S:List Nat} (h:fH w m M p Z) (u:af S w w') (hS:∀ k,k∈S->k∈Z\/w.heap.size<=k) (hd:∀ k,k∈p.all m->k∉S):fH w' m M p Z:=by
 refine ⟨by rw [u.block m (ah h.blk) (hd m (bG.mem.2 (.inl rfl)))];exact h.blk,ai h.os fun k hk=>u.block k (h.os.lt k hk).2 (hd k (bG.mem.2 (.inr (.inl hk)))),?_,ai h.ts fun k hk=>u.block k (h.ts.lt k hk).2 (hd k (bG.mem.2 (.inr (.inr (.inr hk))))),h.ne,h.sz⟩
 exact h.hs.keep u hS fun k hk=>hd k (bG.mem.2 (.inr (.inr (.inl hk))))
theorem fH.keep0 {w w':World} {m:Nat} {M:MV} {p:bG} {Z:List Nat} (h:fH w m M p Z) (u:af [] w w'):fH w' m M p Z:=h.keep u (by simp) (by simp)
theorem fH.apart {w:World} {m:Nat} {M:MV} {p:bG} {Z Z':List Nat} (h:fH w m M p Z) (hs:Sub Z w Z') (hz:∀ k,k∈p.all m->k∈Z'):fH w m M p Z' :=
 ⟨h.blk,h.os,h.hs.apart hs,h.ts,h.ne,hz⟩
theorem fH.cells {w:World} {m:Nat} {M:MV} {p:bG} {Z:List Nat} (h:fH w m M p Z) :
  w.cell? ⟨m,0,none⟩=some (.int .i64 M.n)/\w.cell? ⟨m,1,none⟩=some (.int .i64 M.c)/\w.cell? ⟨m,2,none⟩=some p.ov/\w.cell? ⟨m,3,none⟩=some p.hv/\w.cell? ⟨m,4,none⟩=some p.tv :=
 ⟨ae h.blk rfl,ae h.blk rfl,ae h.blk rfl,ae h.blk rfl,ae h.blk rfl⟩
theorem afc (w:World) (x y z:Value):(w.alloc (.cells #[x,y,z] 264 (0,0))).cell? ⟨w.heap.size,0,none⟩=some x/\(w.alloc (.cells #[x,y,z] 264 (0,0))).cell? ⟨w.heap.size,1,none⟩=some y/\(w.alloc (.cells #[x,y,z] 264 (0,0))).cell? ⟨w.heap.size,2,none⟩=some z:=by
 have h:=heap_alloc_new w (.cells #[x,y,z] 264 (0,0));exact ⟨ae h rfl,ae h rfl,ae h rfl⟩
theorem tJ (m:Nat) (M:MV) (p:bG) (Z:List Nat) (w:World) (h:fH w m M p Z) (hZ:∀ k,k∈Z->k<w.heap.size) (hl:M.held.length<=4194304) :
  Calls Tryz.prog 149 #[.pointer (some ⟨m,0,none⟩)] w fun e w'=>TLQ Z M.tabs w e w':=by
 obtain ⟨ti,eU,fE,dR,fU⟩:=info_parts Tryz.infoTable;have HI:=Lib.hid (And.intro eU (And.intro fE (And.intro dR fU)));obtain ⟨fa,fc,oG,MI⟩:=h.hs.form;obtain ⟨_,_,_,c3,_⟩:=h.cells;rw [oG] at c3;have hs:=h.hs;rw [oG] at hs;have HL:=Lib.hid hs;have HZ:=Lib.hid hZ;have HT:Hid (M.tabs=M.held.map (·.1)):=rfl;generalize M.held=H at *;clear h hZ eU fE dR fU oG hs
 go_enter Tryz.func149,Tryz.ntmps149
 go_wp2_with fail
 go_loopg [3,11] H.length (fun g s3 s8 wr=>∃ i:Nat,H.length-i=g/\i<=H.length/\s8=.int .i64 i/\iI wr w.heap.size Z s3 ((H.take i).map (·.1))/\af [] w wr)
 case atStart=>exact ⟨0,by omega,by omega,rfl,by simpa using iI.nil w w.heap.size Z,af.refl _ _⟩
 case round =>
  obtain ⟨i,rfl,hi,rfl,hT,hU⟩:=hrel
  by_cases aW:i<H.length
  ·obtain ⟨u,hu⟩ : ∃ u,H[i]?=some u:=⟨_,List.getElem?_eq_getElem aW⟩
   obtain ⟨ga,rfl⟩:=MI (by omega);obtain ⟨cu,x0,x1,x2,uQ⟩:=(HL.out.keep hU (by simp) (by simp)).at_ hu;obtain ⟨ua,uc,Qr,_⟩:=aj uQ.row;subst Qr;obtain ⟨oa,oc,sH,_⟩:=hT.form;subst sH
   have fF:(i:Int)<(H.length:Int):=by omega
   have MJ:((H.take i).map (·.1)).length<=4194304:=by
    rw [List.length_map,List.length_take];omega
   have HS:Hid ((H.take (i+1)).map (·.1)=(H.take i).map (·.1)++[u.1]):=by
    show _=_
    rw [List.take_add_one,hu];simp
   generalize (H.take i).map (·.1)=UL at *;obtain ⟨z0,z1,z2⟩:=afc wr (.int .i64 u.1.n) (.slice ua u.1.ws.length uc) (.int .i64 u.2);have xx:=(af.refl [] wr).alloc (.cells #[.int .i64 u.1.n,.slice ua u.1.ws.length uc,.int .i64 u.2] 264 (0,0));have rW:=Lib.hid (And.intro (hT.keep0 xx) (And.intro (uQ.keep0 xx) (hU.trans xx)));obtain ⟨t,k⟩:=u
   simp only at *
   generalize MK:t.ws.length=UW at *;generalize uZ:t.n=un at *;have OV:=Lib.hid (And.intro MK uZ);obtain ⟨xs,aC⟩:=rW.out.1.row;have bF:=Lib.hid aC
   have mg:Hid (∀ z,z∈[Value.int .i64 un,Value.slice ua UW uc]->z.oneCell'=true):=by
    intro z hz;simp at hz;rcases hz with rfl | rfl <;> rfl
   have yK:=rW.out.2.2.size
   have pW:w.heap.size<=((wr.alloc (.cells #[.int .i64 un,.slice ua UW uc,.int .i64 k] 264 (0,0))).alloc (.cells #[.int .i64 un,.slice ua UW uc] 122 (0,0))).heap.size:=by rw [World.size_alloc];omega
   clear uQ hT hU hu xx MK uZ aC
   go_wp2_with (at_builtin;go_must (refine wpList_append_lies _ rfl (.tmp 15) (.tmp 18) 22 rfl w.heap.size 122 ti _ 2 32 Tryz.underlying22 HI.out.1 HI.out.2.1 HI.out.2.2.1 HI.out.2.2.2 (by rfl) (by decide) _ UL.length xs rfl (bF.out.alloc _) ⟨wr.heap.size+1,0,none⟩ 1 1 [.int .i64 un,.slice ua UW uc] rfl rfl ?c1 mg.out (by omega) (by unfold maxLen;omega) (by omega) pW _ rfl ?_))
   case c1=>exact World.news_of_block (by
    have:=heap_alloc_new (wr.alloc (.cells #[.int .i64 un,.slice ua UW uc,.int .i64 k] 264 (0,0))) (.cells #[.int .i64 un,.slice ua UW uc] 122 (0,0))
    rw [World.size_alloc] at this;exact this)
   intro g5 cap w5 aK dh bI kF
   have HE:Hid (iI w5 w.heap.size Z (.slice (some ⟨g5,0,none⟩) (UL.length+1) cap) (UL++[t])/\af [] w w5):=by
    have hp:=rW.out.1.push rW.out.2.1 (by omega) HZ.out dh bF.out (by rw [OV.out.2];exact aK);refine ⟨hp.1,rW.out.2.2.then (hp.2 (Value.slice oa UL.length oc).ownBlock.toList fun k hk=>.inl (by rw [hk];simp)) fun k hk=>.inr ?_⟩
    have dB:(Value.slice oa UL.length oc).ownBlock=some k:=by simpa using hk
    exact (bF.out.lt k dB).1
   clear aK dh bI kF;go_wp2_with fail
   go_roundg (H.length-(i+1))
   case measure=>omega
   case rel=>exact ⟨i+1,rfl,by omega,by simp,by rw [HS.out];exact HE.out.1,HE.out.2⟩
  ·obtain rfl:i=H.length:=by omega
   have fF:¬ ((H.length:Int)<(H.length:Int)):=by omega
   have HE:Hid (iI wr w.heap.size Z _ M.tabs/\af [] w wr):=⟨by rw [HT.out];rw [List.take_length] at hT;exact hT,hU⟩;clear hT hU;go_wp2_with fail;go_ret;exact ⟨_,rfl,HE.out⟩
structure MV.Fit (M:MV):Prop where
 hl:M.held.length<=65536
 n6:M.n<=8
 ol:M.order.length<=8
 on:∀ x,x∈M.order->x<M.n
 tn:∀ t,t∈M.tabs->t.Ok/\t.n=M.n
 cb:M.c<=1048576
def MV.lev (M:MV):List (List TV):=iJ (bz M.tabs) M.order
theorem Hw (m:Nat) (M:MV) (p:bG) (Z:List Nat) (w:World) (h:fH w m M p Z) (hZ:∀ k,k∈Z->k<w.heap.size) (hf:M.Fit) :
  Calls Tryz.prog 147 #[.pointer (some ⟨m,0,none⟩)] w fun e w'=>ae7 Z M.lev w e w':=by
 obtain ⟨oa,oc,sH,_⟩:=aj h.os;obtain ⟨_,_,c2,_,_⟩:=h.cells;rw [sH] at c2;have HM:=Lib.hid h;have HF:=Lib.hid hf;have HOV:=Lib.hid sH
 have HZ:Hid (∀ x:World,af [] w x->∀ k,k∈Z->k<x.heap.size):=fun x u k hk=>Nat.lt_of_lt_of_le (hZ k hk) u.size
 have Jw:=Lib.hid (tJ m M p Z w.drew (h.keep0 (af.refl _ _).drew) hZ (by have:=hf.hl;omega))
 have HL0:Hid (M.tabs.length<=4194304):=by show _<=_;unfold MV.tabs;rw [List.length_map];have:=hf.hl;omega
 clear h hZ hf sH
 go_enter Tryz.func147,Tryz.ntmps147
 go_wp2_with fail
 go_region_held3 (fun w'=>w'.cell? ⟨m,2,none⟩=some (.slice oa M.order.length oc)) (first | exact c2 | exact HT.out.2.cell0 c2 | exact (HT.out.2.trans HS.out.2).cell0 c2) (first | (go_at_call 149;refine Jw.out.mono ?_;rintro e w3 hE;obtain ⟨cf,rfl,hT,hu⟩:=hE.ex;have HT:=Lib.hid (And.intro hT hu.jf);clear hE hT hu) | (go_at_call 148;refine (tq _ 0 Z _ _ M.tabs M.order M.n _ HT.out.1 (HZ.out _ HT.out.2) HL0.out (fun t ht=>(HF.out.tn t ht).2) HF.out.n6 (ai (by have:=HM.out.os;rw [HOV.out] at this;exact this) fun k hk=>HT.out.2.block k (HM.out.os.lt k (by rw [HOV.out];exact hk)).2 (by simp)) HF.out.ol HF.out.on).mono ?_;rintro e w4 hE;obtain ⟨cf,rfl,hS,hu⟩:=hE.ex;have HS:=Lib.hid (And.intro hS hu);clear hE hS hu))
 go_wp2_with fail;go_ret;exact ⟨_,rfl,HS.out.1.base HT.out.2.size,HT.out.2.trans HS.out.2⟩
theorem AV {w:World} {b1 b2:Nat} {e:TypeId} {sz n1 n2:Nat} {v:Value} {xs ys:List Value} (h1:w.ownsRow b1 e sz v n1 xs) (h2:w.ownsRow b2 e sz v n2 ys):n1=n2->xs=ys:=by
 intro hn
 subst hn;obtain ⟨e1,c1⟩:=h1;obtain ⟨e2,c2⟩:=h2
 rcases c1 with ⟨rfl,h0⟩ | ⟨g,oD,Yb,rfl,hg,hh,_,_,_,k1⟩
 ·rcases c2 with ⟨_,_⟩ | ⟨g,jc,Qs,e,_⟩
  ·have a1:xs.length=0:=by rw [e1,h0];simp
   have a2:ys.length=0:=by rw [e2,h0];simp
   rw [List.length_eq_zero_iff.1 a1,List.length_eq_zero_iff.1 a2]
  ·simp at e
 ·rcases c2 with ⟨e,_⟩ | ⟨g',jc,Qs,e,hg',Xq,_,_,_,k2⟩
  ·simp at e
  ·simp at e
   obtain ⟨rfl,_⟩:=e
   rw [hh] at Xq;cases Xq
   rw [<- k1,<- k2]
theorem MR {L:List TV} {cs:List Value} (h:∀ c,c∈cs->c.oneCell'=true):∀ u,u∈fV L cs->u.oneCell'=true:=by
 intro u hu
 unfold fV at hu;obtain ⟨p,hp,hu⟩:=List.mem_flatMap.1 hu
 simp only [List.mem_cons,List.not_mem_nil,or_false] at hu
 rcases hu with rfl | rfl
 ·rfl
 ·exact h _ (List.of_mem_zip hp).2
theorem iI.src {w:World} {n0:Nat} {Z:List Nat} {v:Value} {L:List TV} (h:iI w n0 Z v L):∃ (A:Option Addr) (c:Nat) (ys:List Value),v=.slice A L.length c/\(A=none->L.length=0)/\w.ownsRow n0 122 2 v L.length ys/\ys.length=L.length*2 /\
  (∀ ad,A=some ad->∀ (j:Nat) u,ys[j]?=some u->w.cell? (ad.add j)=some u)/\∀ u,u∈ys->u.oneCell'=true:=by
 obtain ⟨cs,h1,h2,h3⟩:=h.ex;obtain ⟨a,c,hv,hh⟩:=aj h2;refine ⟨a,c,_,hv,?_,h2,h2.1,?_,MR fun c hc=>?_⟩
 ·rintro rfl
  rcases hh with ⟨_,h0,_⟩ | ⟨g,hg⟩
  ·exact h0
  ·cases hg
 ·intro ad Yj j u hj
  rcases hh with ⟨h0,_⟩ | ⟨g,hg⟩
  ·rw [h0] at Yj;cases Yj
  ·rw [hg] at Yj;cases Yj
   rw [hg] at hv;exact h2.cells (g:=g) (by rw [hv];rfl) j u hj
 ·obtain ⟨i,hi⟩:=List.getElem?_of_mem hc
  have fF:i<L.length:=by
   by_cases e:i<cs.length
   ·omega
   ·rw [List.getElem?_eq_none (by omega)] at hi;cases hi
  obtain ⟨a,c',hv',_⟩:=aj (h3 i _ c (List.getElem?_eq_getElem fF) hi).row
  rw [hv'];rfl
theorem iI.cat {w w5:World} {n0 n1:Nat} {Z:List Nat} {v v2 v':Value} {L L2:List TV} (h:iI w n0 Z v L) (h2:iI w n1 Z v2 L2) (hZ:∀ k,k∈Z->k<n0) (dh:w.grownBy w5 v.ownBlock) {xs ys:List Value}
  (aC:w.ownsRow n0 122 2 v L.length xs) (mf:w.ownsRow n1 122 2 v2 L2.length ys) (aK:w5.ownsRow n0 122 2 v' (L.length+L2.length) (xs++ys)) :
  iI w5 n0 Z v' (L++L2)/\af v.ownBlock.toList w w5:=by
 obtain ⟨cs,a1,a2,a3⟩:=h.ex;obtain ⟨cs2,b1,b2,b3⟩:=h2.ex;obtain rfl:=AV aC a2 rfl;obtain rfl:=AV mf b2 rfl
 have hu:af v.ownBlock.toList w w5:=(af.refl _ w).grown dh fun k hk=>.inl (by rw [hk];simp)
 have keep:∀ {u:TV} {d:Value},jG w Z d u->jG w5 Z d u:=fun {u d} hd=>⟨hd.ok,ai hd.row fun k hk=>hu.block k (hd.row.lt k hk).2 fun hm=>by
  have Js:v.ownBlock=some k:=by simpa using hm
  obtain ⟨c1,f1,e1⟩:=bT a2 Js;obtain ⟨c2,f2,e2⟩:=bT hd.row hk;rw [e1] at e2
  injection e2 with e2
  injection e2 with _ e2 _
  exact absurd e2 (by decide),hd.fr⟩
 refine ⟨⟨⟨cs++cs2,by simp [a1,b1],?_,fun i u d jy hd=>?_⟩,fun k hk hm=>?_⟩,hu⟩
 ·have e:fV (L++L2) (cs++cs2)=fV L cs++fV L2 cs2:=by
   unfold fV;rw [List.zip_append a1.symm,List.flatMap_append]
  rw [e,List.length_append];exact aK
 ·by_cases hi:i<L.length
  ·rw [List.getElem?_append_left hi] at jy
   rw [List.getElem?_append_left (by omega)] at hd;exact keep (a3 i u d jy hd)
  ·rw [List.getElem?_append_right (by omega)] at jy
   rw [List.getElem?_append_right (by omega),a1] at hd;exact keep (b3 _ u d jy hd)
 ·have h4:=(aK.lt k hk).1
  have h5:=hZ k hm;omega
theorem MS (m n0:Nat) (M:MV) (p:bG) (Z:List Nat) (v:Value) (L:List TV) (w:World) (h:fH w m M p Z) (hZ:∀ k,k∈Z->k<w.heap.size) (hf:M.Fit) (hv:iI w n0 Z v L) (hL:∀ t,t∈L->t.n=M.n) (hl:L.length<=4194304) :
  Calls Tryz.prog 127 #[.pointer (some ⟨m,0,none⟩),v] w fun e w'=>e=.returned (.int .i64 ((iy L M.order).length:Nat))/\af [] w w':=by
 obtain ⟨oa,oc,sH,_⟩:=aj h.os;obtain ⟨_,_,c2,_,_⟩:=h.cells;rw [sH] at c2;have zG:=h.os;rw [sH] at zG;have HS:=Lib.hid (MP n0 0 Z v _ L M.order M.n w hv hZ hl hL hf.n6 zG hf.ol hf.on);generalize (iy L M.order).length=S at *;clear h hZ hf hv hL hl sH zG
 go_enter Tryz.func127,Tryz.ntmps127
 go_wp2_with fail;refine HS.out.mono ?_;rintro e w1 ⟨rfl,hu⟩;have HU:=Lib.hid hu;clear hu HS;go_wp2_with fail;go_ret;exact ⟨rfl,HU.out⟩
theorem QB {L:List TV} {o:List Nat} (ho:o.length<=8) (hl:L.length<=4194304):(iy L o).length<=8589934592:=FU ho (Nat.le_trans (iw L) hl)
def MV.fits (M:MV) (X:List TV):Bool:=decide (2+(iy (M.tabs++X) M.order).length<=M.c)
theorem MW (m n0:Nat) (M:MV) (p:bG) (Z:List Nat) (v:Value) (X:List TV) (w:World) (h:fH w m M p Z) (hZ:∀ k,k∈Z->k<w.heap.size) (hf:M.Fit) (hv:iI w n0 Z v X) (hX:∀ t,t∈X->t.n=M.n) (hl:X.length<=1000) :
  Calls Tryz.prog 138 #[.pointer (some ⟨m,0,none⟩),v] w fun e w'=>e=.returned (.bool (M.fits X))/\af [] w w':=by
 obtain ⟨ti,eU,fE,dR,fU⟩:=info_parts Tryz.infoTable;have HI:=Lib.hid (And.intro eU (And.intro fE (And.intro dR fU)));obtain ⟨_,c1,_,_,_⟩:=h.cells;have HM:=Lib.hid h;have HF:=Lib.hid hf;have HV:=Lib.hid hv;have HX:=Lib.hid hX
 have HZ:Hid (∀ x:World,af [] w x->∀ k,k∈Z->k<x.heap.size):=fun x u k hk=>Nat.lt_of_lt_of_le (hZ k hk) u.size
 have Hu:M.tabs.length<=65536:=by unfold MV.tabs;rw [List.length_map];exact hf.hl
 have Jw:=Lib.hid (tJ m M p Z w h hZ (by have:=hf.hl;omega));obtain ⟨xa,xc,rfl,_⟩:=hv.form;clear h hZ hf hv hX eU fE dR fU
 go_enter Tryz.func138,Tryz.ntmps138
 go_wp2_with fail;refine Jw.out.mono ?_;rintro e w1 hE;obtain ⟨cf,rfl,hT,hu⟩:=hE.ex;obtain ⟨A,c,ys,hcf,hA,aC,SI,Z9,hy1⟩:=hT.src;have HT:=Lib.hid (And.intro hT hu);have HY:=Lib.hid (And.intro hA (And.intro aC (And.intro SI (And.intro Z9 hy1))));have dG:=hu.size;subst hcf;clear hT hu hE Jw hA aC SI Z9 hy1
 go_wp2_with (at_builtin;go_must (refine iY rfl (.tmp 6) (.tmp 8) 22 rfl w.heap.size 122 ti _ 2 32 Tryz.underlying22 HI.out.1 HI.out.2.1 HI.out.2.2.1 HI.out.2.2.2 (by rfl) (by decide) (.slice none 0 0) 0 [] rfl (World.ownsRow_nil _ _ _ _) A M.tabs.length c ys rfl HY.out.1 HY.out.2.2.1 HY.out.2.2.2.1 HY.out.2.2.2.2 (by unfold maxLen;omega) (by omega) dG ?_))
 intro v2 w2 aK dh bI
 have hp:=(iI.nil w1 w.heap.size Z).cat HT.out.1 (HZ.out w (af.refl _ _)) dh (World.ownsRow_nil _ _ _ _) HY.out.2.1 (by rw [List.length_nil,Nat.zero_add,List.nil_append];exact aK);rw [List.nil_append] at hp;have jE:af [] w1 w2:=hp.2;obtain ⟨A2,c2',ys2,aj7,hA2,mf,aj8,aj9,aka⟩:=hp.1.src;obtain ⟨A3,c3',ys3,akb,hA3,aab,afe,aff,afg⟩:=(HV.out.keep0 (HT.out.2.trans jE)).src;cases akb;subst aj7;have Eh:=Lib.hid (And.intro hp.1 (HT.out.2.trans jE));have HY2:=Lib.hid mf;have HY3:=Lib.hid (And.intro hA3 (And.intro aab (And.intro afe (And.intro aff afg))));have BB:=Eh.out.2.size;clear aK dh bI hp jE HY HT hA2 mf aj8 aj9 aka hA3 aab afe aff afg
 go_wp2_with (at_builtin;go_must (refine iY rfl (.tmp 10) (.tmp 11) 22 rfl w.heap.size 122 ti _ 2 32 Tryz.underlying22 HI.out.1 HI.out.2.1 HI.out.2.2.1 HI.out.2.2.2 (by rfl) (by decide) _ M.tabs.length ys2 rfl HY2.out xa X.length xc ys3 rfl HY3.out.1 HY3.out.2.2.1 HY3.out.2.2.2.1 HY3.out.2.2.2.2 (by unfold maxLen;omega) (by omega) BB ?_))
 intro v3 w3 aK dh bI
 have hp:=Eh.out.1.cat (HV.out.keep0 Eh.out.2) (HZ.out w (af.refl _ _)) dh HY2.out HY3.out.2.1 aK
 have fG:af [] w w3:=Eh.out.2.then hp.2 fun k hk=>.inr (by
  have dB:(Value.slice A2 M.tabs.length c2').ownBlock=some k:=by simpa using hk
  exact (HY2.out.lt k dB).1)
 have o8:=Lib.hid fG;have d1:=fG.cell0 c1;have I9:=QB (L:=M.tabs++X) HF.out.ol (by rw [List.length_append];omega)
 have HSZ:=Lib.hid (MS m w.heap.size M p Z v3 (M.tabs++X) w3.drew ((HM.out.keep0 fG).keep0 (af.refl _ _).drew) (HZ.out _ fG.drew) HF.out (hp.1.keep0 (af.refl _ _).drew) (fun t ht=>by
  rcases List.mem_append.1 ht with ht | ht
  ·exact (HF.out.tn t ht).2
  ·exact HX.out t ht) (by rw [List.length_append];omega))
 obtain ⟨A4,c4',rfl,_⟩:=hp.1.form;have HFT:Hid (M.fits X=decide (2+(iy (M.tabs++X) M.order).length<=M.c)):=rfl;have ZZ:=HF.out.cb;generalize (iy (M.tabs++X) M.order).length=S at *;generalize (M.tabs++X).length=TL at *;clear aK dh bI hp fG HY2 HY3 Eh c1;have gV:IntKind.i64.wrap (2+(S:Int))=2+(S:Int):=IntWalk.i64_in _ (by omega);go_wp2_with fail
 go_region_held3 (fun w'=>w'.cell? ⟨m,1,none⟩=some (.int .i64 M.c)) (first | exact d1 | exact HS.out.cell0 d1) (first | (go_at_call 127;refine HSZ.out.mono ?_;rintro e w4 ⟨rfl,hu⟩;have HS:=Lib.hid hu.jf;clear hu))
 clear gV;go_wp2_with fail;go_ret
 exact ⟨UC (by
  rw [HFT.out,Bool.eq_iff_iff]
  simp only [decide_eq_true_eq]
  omega),o8.out.trans HS.out⟩
def TV.isC (t:TV):Bool:=decide (t=nD t.n false)||decide (t=nD t.n true)
theorem Hy (Z:List Nat) (c:Value) (t:TV) (w:World) (h:jG w Z c t) (hZ:∀ k,k∈Z→k < w.heap.size) :
    Calls Tryz.prog 188 #[dI t c] w fun e w'=>e=.returned (.bool t.isC)∧af [] w w':=by
  obtain ⟨fa,ca,Qj,_⟩:=aj h.row;subst Qj;have I7:=h.ok.n16
  have HX:Hid (∀ x:World,af [] w x→jG x Z (.slice fa t.ws.length ca) t):=fun x u=>h.keep0 u
  have HZ:Hid (∀ x:World,af [] w x→∀ k,k∈Z→k < x.heap.size):=fun x u k hk=>Nat.lt_of_lt_of_le (hZ k hk) u.size
  have jR:=Lib.hid (((af.refl [] w).alloc (.cells #[.int .i64 t.n,.slice fa t.ws.length ca] 122 (0,0))).drew);have hb:=nH w (.int .i64 t.n) (.slice fa t.ws.length ca)
  have BN:Hid (∀ (x:World) (d:Value) (u:TV),af [] w x→jG x Z d u→Calls Tryz.prog 57 #[.agg #[.int .i64 t.n,.slice fa t.ws.length ca],dI u d] x fun e w'=>e=.returned (.bool (decide (t=u)))∧af [] x w'):=fun x d u hx hd=>mJ Z _ d t u x (h.keep0 hx) hd
  have HD:Hid (t.isC=(decide (t=nD t.n false) || decide (t=nD t.n true))):=rfl;unfold dI;generalize t.ws.length=L at *;generalize hn:t.n=n at *;obtain ⟨b0,b1⟩:=hb
  have HK:Hid (∀ x:World,af [] (w.alloc (.cells #[.int .i64 n,.slice fa L ca] 122 (0,0))).drew x→x.cell? ⟨w.heap.size,0,none⟩=some (.int .i64 n)∧x.cell? ⟨w.heap.size,1,none⟩=some (.slice fa L ca)):=fun x u=>dw (af.jf u) ⟨b0,b1⟩
  clear h hZ hn
  by_cases e1:t=nD n false
  · have E1:Hid (decide (t=nD n false)=true):=decide_eq_true e1
    clear e1
    go_enter Tryz.func188,Tryz.ntmps188
    go_wp2_with fail;refine fZ (fun w'=>w'.cell? ⟨w.heap.size,0,none⟩=some (.int .i64 n)∧w'.cell? ⟨w.heap.size,1,none⟩=some (.slice fa L ca)) (fun _=>True) [] (by kernel_rfl) ?_;have hS:=HK.out _ (af.refl [] _);refine dV (i:=0) (v:=?v1) rfl (by kernel_rfl) (by kernel_rfl) (by kernel_rfl) (by kernel_rfl) (fun _ _ _ h=>h) (Or.inl ⟨by rfl,?hy1⟩) hS (fun _=>trivial) ?anT
    case hy1=>(intro x QC; (try dsimp only at QC); go_simp; try with_reducible rfl)
    (try simp only [Act.put,List.setIfInBounds_toArray])
    refine dV (i:=1) (v:=?v2) rfl (by kernel_rfl) (by kernel_rfl) (by kernel_rfl) (by kernel_rfl) (fun _ _ _ h=>h) (Or.inl ⟨by rfl,?hy2⟩) hS (fun _=>trivial) ?anU
    case hy2=>(intro x QC; (try dsimp only at QC); go_simp; try with_reducible rfl)
    (try simp only [Act.put])
    refine dV (i:=2) (v:=?v3) rfl (by kernel_rfl) (by kernel_rfl) (by kernel_rfl) (by kernel_rfl) (fun _ _ _ h=>h) (Or.inl ⟨by rfl,?hy3⟩) hS (fun _=>trivial) ?anV
    case hy3=>(intro x QC; (try dsimp only at QC); go_simp; try with_reducible rfl)
    (try simp only [Act.put])
    refine aJ (rs:=[3]) (by kernel_rfl) (by simp) ?_;refine ay.cons rfl (fun K hK=>?_) ?_
    rotate_left
    exact ay.nil
    go_simp
    (go_at_call 98; refine (sZ n false _ I7).mono ?_; rintro e w3 hE; obtain ⟨cf,rfl,hT,hu⟩:=hE.ex; have HF:=Lib.hid (And.intro hT hu); clear hE hT hu)
    go_wp2_with fail;refine hK.out _ _ ⟨HK.out _ HF.out.2,fun _=>trivial⟩ (fun hHeld=>?_);clear hK K hS;have hS:=hHeld.1;clear hHeld
    (try simp only [Act.put,List.setIfInBounds_toArray,List.set_cons_zero,List.set_cons_succ])
    refine aJ (rs:=[4]) (by kernel_rfl) (by simp) ?_;refine ay.cons rfl (fun K hK=>?_) ?_
    rotate_left
    exact ay.nil
    go_simp
    (go_at_call 57; refine (BN.out _ _ _ (jR.out.trans HF.out.2) ((HF.out.1.base jR.out.size).tin (HZ.out w (af.refl _ _)))).mono ?_; rintro e w5 ⟨rfl,hu⟩; rw [E1.out]; have Ai:=Lib.hid hu; clear hu)
    go_wp2_with fail;refine hK.out _ _ ⟨HK.out _ (HF.out.2.trans Ai.out),fun _=>trivial⟩ (fun hHeld=>?_);clear hK K hS;have hS:=hHeld.1;clear hHeld
    (try simp only [Act.put,List.setIfInBounds_toArray,List.set_cons_zero,List.set_cons_succ])
    refine dV (i:=5) (v:=?v4) rfl (by kernel_rfl) (by kernel_rfl) (by kernel_rfl) (by kernel_rfl) (fun _ _ _ h=>h) (Or.inl ⟨by rfl,?hy4⟩) hS (fun _=>trivial) ?anW
    case hy4=>(intro x QC; (try dsimp only at QC); go_simp; try with_reducible rfl)
    (try simp only [Act.put,List.setIfInBounds_toArray])
    refine dV (i:=6) (v:=undef) rfl (by kernel_rfl) (by kernel_rfl) (by kernel_rfl) (by kernel_rfl) (fun _ _ _ h=>h) (Or.inr ⟨by rfl,rfl⟩) hS (fun _=>trivial) ?rest5
    (try simp only [Act.put])
    refine dV (i:=7) (v:=undef) rfl (by kernel_rfl) (by kernel_rfl) (by kernel_rfl) (by kernel_rfl) (fun _ _ _ h=>h) (Or.inr ⟨by rfl,rfl⟩) hS (fun _=>trivial) ?anX
    (try simp only [Act.put])
    refine dV (i:=8) (v:=undef) rfl (by kernel_rfl) (by kernel_rfl) (by kernel_rfl) (by kernel_rfl) (fun _ _ _ h=>h) (Or.inr ⟨by rfl,rfl⟩) hS (fun _=>trivial) ?anY
    (try simp only [Act.put])
    refine dV (i:=9) (v:=undef) rfl (by kernel_rfl) (by kernel_rfl) (by kernel_rfl) (by kernel_rfl) (fun _ _ _ h=>h) (Or.inr ⟨by rfl,rfl⟩) hS (fun _=>trivial) ?anZ
    (try simp only [Act.put])
    refine dV (i:=10) (v:=undef) rfl (by kernel_rfl) (by kernel_rfl) (by kernel_rfl) (by kernel_rfl) (fun _ _ _ h=>h) (Or.inr ⟨by rfl,rfl⟩) hS (fun _=>trivial) ?an0
    (try simp only [Act.put])
    refine aJ (rs:=[11]) (by kernel_rfl) (by simp) ?_;refine ay.cons rfl (fun K hK=>?_) ?_
    rotate_left
    exact ay.nil
    go_simp
    refine hK.out _ _ ⟨hS,fun _=>trivial⟩ (fun hHeld=>?_);clear hK K hHeld
    (try simp only [Act.put,List.setIfInBounds_toArray,List.set_cons_zero,List.set_cons_succ])
    refine aJ (rs:=[12]) (by kernel_rfl) (by simp) ?_;refine ay.cons rfl (fun K hK=>?_) ?_
    rotate_left
    exact ay.nil
    go_simp
    refine hK.out _ _ ⟨hS,fun _=>trivial⟩ (fun hHeld=>?_);clear hK K hHeld
    (try simp only [Act.put,List.setIfInBounds_toArray,List.set_cons_zero,List.set_cons_succ])
    refine fD (by kernel_rfl) ?_ _
    all_goals (
      go_wp2_with fail;go_ret
      exact ⟨by rw [HD.out,E1.out]; rfl,(jR.out.trans HF.out.2).trans Ai.out⟩)
  · have E1:Hid (decide (t=nD n false)=false):=decide_eq_false e1
    clear e1
    go_enter Tryz.func188,Tryz.ntmps188
    go_wp2_with fail
    first | (go_region_held3 (fun w' => w'.cell? ⟨w.heap.size, 0, none⟩ = some (.int .i64 n) ∧ w'.cell? ⟨w.heap.size, 1, none⟩ = some (.slice fa L ca)) (first | exact ⟨b0, b1⟩ | exact HK.out _ HF.out.2 | exact HK.out _ (HF.out.2.trans Ai.out) | exact HK.out _ ((HF.out.2.trans Ai.out).trans HT.out.2) | exact HK.out _ (((HF.out.2.trans Ai.out).trans HT.out.2).trans xm.out)) (first | (go_at_call_of 98 (Value.bool false); refine (sZ n false _ I7).mono ?_; rintro e w3 hE; obtain ⟨cf, rfl, hT, hu⟩ := hE.ex; have HF := Lib.hid (And.intro hT hu); clear hE hT hu) | (go_at_call_of 98 (Value.bool true); refine (sZ n true _ I7).mono ?_; rintro e w4 hE; obtain ⟨ct, rfl, hT, hu⟩ := hE.ex; have HT := Lib.hid (And.intro hT hu); clear hE hT hu) | (go_at_call 57; refine (BN.out _ _ _ ((jR.out.trans (HF.out.2.trans Ai.out)).trans HT.out.2) ((HT.out.1.base ((jR.out.trans HF.out.2).trans Ai.out).size).tin (HZ.out w (af.refl _ _)))).mono ?_; rintro e w6 ⟨rfl, hu⟩; have xm := Lib.hid hu; clear hu) | (go_at_call 57; refine (BN.out _ _ _ (jR.out.trans HF.out.2) ((HF.out.1.base jR.out.size).tin (HZ.out w (af.refl _ _)))).mono ?_; rintro e w5 ⟨rfl, hu⟩; rw [E1.out]; have Ai := Lib.hid hu; clear hu))) | fail "held3"
    go_wp2_with fail;go_ret;exact ⟨by rw [HD.out,E1.out]; rfl,(jR.out.trans ((HF.out.2.trans Ai.out).trans HT.out.2)).trans xm.out⟩
theorem MV.Fit.Yk {M:MV} (h:M.Fit):M.lev.length<=8:=by unfold MV.lev;rw [xy];exact h.ol
def jd:List (TV × Nat)->TV->Nat
 | [],_=>0
 | h::H,t=>if h.1=t then h.2 else jd H t
def MV.holds (M:MV) (t:TV):Nat:=jd M.held t
theorem Cf:∀ {H:List (TV × Nat)} {t:TV} {i:Nat} {u:TV × Nat},H[i]?=some u->u.1=t->(∀ h,h∈H.take i->h.1≠t)->jd H t=u.2
 | [],_,_,_,h,_,_=>by simp at h
 | a::H,t,0,u,h,e,_=>by simp at h;subst h;simp [jd,e]
 | a::H,t,i+1,u,h,e,bK=>by
  have h1:a.1≠t:=bK a (by simp)
  simp only [jd,if_neg h1]
  exact Cf (i:=i) (by simpa using h) e fun b hb=>bK b (by simp [hb])
theorem Ci:∀ {H:List (TV × Nat)} {t:TV},(∀ h,h∈H->h.1≠t)->jd H t=0
 | [],_,_=>rfl
 | a::H,t,bK=>by
  simp only [jd,if_neg (bK a (by simp))]
  exact Ci fun b hb=>bK b (by simp [hb])
theorem MX (m:Nat) (M:MV) (p:bG) (Z:List Nat) (c:Value) (t:TV) (w:World) (h:fH w m M p Z) (ht:jG w Z c t) (hl:M.held.length<=4194304) :
  Calls Tryz.prog 122 #[.pointer (some ⟨m,0,none⟩),dI t c] w fun e w'=>e=.returned (.int .i64 (M.holds t:Nat))/\af [] w w':=by
 obtain ⟨ta,tc,rfl,_⟩:=aj ht.row;obtain ⟨fa,fc,oG,MI⟩:=h.hs.form;obtain ⟨_,_,_,c3,_⟩:=h.cells;rw [oG] at c3;have hs:=h.hs;rw [oG] at hs;have HL:=Lib.hid hs;have HT:=Lib.hid ht;have jR:=Lib.hid ((af.refl [] w).alloc (.cells #[.int .i64 t.n,.slice ta t.ws.length tc] 122 (0,0)));have hb:=nH w (.int .i64 t.n) (.slice ta t.ws.length tc)
 have BN:Hid (∀ (x:World) (d:Value) (u:TV),af [] w x->jG x Z d u->Calls Tryz.prog 57 #[dI u d,dI t (.slice ta t.ws.length tc)] x fun e w'=>e=.returned (.bool (decide (u=t)))/\af [] x w'):=fun x d u hx hd=>mJ Z d _ u t x hd (ht.keep0 hx)
 have HD:Hid (M.holds t=jd M.held t):=rfl;have d3:=jR.out.cell0 c3;unfold dI at BN ⊢;generalize t.ws.length=W at *;generalize t.n=n at *;obtain ⟨b0,b1⟩:=hb
 have HB:Hid (∀ x:World,af [] (w.alloc (.cells #[.int .i64 n,.slice ta W tc] 122 (0,0))) x->x.cell? ⟨w.heap.size,0,none⟩=some (.int .i64 n)/\x.cell? ⟨w.heap.size,1,none⟩=some (.slice ta W tc)):=fun x u=>dw u ⟨b0,b1⟩
 generalize M.held=H at *;clear h oG hs ht b0 b1 c3
 go_enter Tryz.func122,Tryz.ntmps122
 go_wp2_with fail
 go_loopg [12] H.length (fun g s12 wr=>∃ i:Nat,H.length-i=g/\i<=H.length/\s12=.int .i64 i/\(∀ h,h∈H.take i->h.1≠t)/\af [] (w.alloc (.cells #[.int .i64 n,.slice ta W tc] 122 (0,0))) wr)
 case atStart=>exact ⟨0,by omega,by omega,rfl,by simp,af.refl _ _⟩
 case round =>
  obtain ⟨i,rfl,hi,rfl,bK,hU⟩:=hrel
  by_cases aW:i<H.length
  ·obtain ⟨u,hu⟩ : ∃ u,H[i]?=some u:=⟨_,List.getElem?_eq_getElem aW⟩
   obtain ⟨ga,rfl⟩:=MI (by omega);have SK:=jR.out.trans hU;obtain ⟨cu,x0,x1,x2,uQ⟩:=(HL.out.keep SK (by simp) (by simp)).at_ hu;obtain ⟨ua,uc,Qr,_⟩:=aj uQ.row;subst Qr
   have fF:(i:Int)<(H.length:Int):=by omega
   obtain ⟨z0,z1,z2⟩:=afc wr (.int .i64 u.1.n) (.slice ua u.1.ws.length uc) (.int .i64 u.2);have xx:=(af.refl [] wr).alloc (.cells #[.int .i64 u.1.n,.slice ua u.1.ws.length uc,.int .i64 u.2] 264 (0,0));obtain ⟨y0,y1⟩:=HB.out _ (hU.trans xx);have Ai:=Lib.hid (BN.out _ _ u.1 (SK.trans xx) (uQ.keep0 xx));have HN:=Lib.hid (And.intro hu (And.intro bK (xx)));have HUr:=Lib.hid hU;have HZB:Hid ((wr.alloc (.cells #[.int .i64 u.1.n,.slice ua u.1.ws.length uc,.int .i64 u.2] 264 (0,0))).cell? ⟨wr.heap.size,2,none⟩=some (.int .i64 u.2)):=z2;obtain ⟨q,k⟩:=u
   simp only at *
   generalize q.ws.length=UW at *;generalize q.n=un at *;clear hu uQ bK hU SK xx;go_wp2_with fail;refine Ai.out.mono ?_;rintro e w5 ⟨rfl,nK⟩;have k2:=nK.cell0 HZB.out;have Jy:=Lib.hid (HUr.out.trans (HN.out.2.2.trans nK));clear nK Ai x0 x1 x2 y0 y1 z0 z1 z2 HZB
   by_cases he:q=t
   ·rw [decide_eq_true he]
    have HE:Hid (M.holds t=k):=by show _=k;rw [HD.out];exact Cf HN.out.1 he HN.out.2.1
    clear he;go_wp2_with fail;go_ret;exact ⟨Yi (congrArg _ HE.out.symm),jR.out.trans Jy.out⟩
   ·rw [decide_eq_false he]
    have HE:Hid (∀ h,h∈H.take (i+1)->h.1≠t):=fun h hh=>by
     rw [List.take_add_one,HN.out.1] at hh
     rcases List.mem_append.1 hh with hh | hh
     ·exact HN.out.2.1 h hh
     ·simp at hh;subst hh;exact he
    clear he k2;go_wp2_with fail
    go_roundg (H.length-(i+1))
    case measure=>omega
    case rel=>exact ⟨i+1,rfl,by omega,by simp,HE.out,Jy.out⟩
  ·obtain rfl:i=H.length:=by omega
   have fF:¬ ((H.length:Int)<(H.length:Int)):=by omega
   have HE:Hid (M.holds t=0/\af [] w wr):=⟨by rw [HD.out];exact Ci (by rw [List.take_length] at bK;exact bK),jR.out.trans hU⟩;clear bK hU;go_wp2_with fail;go_ret;exact ⟨by rw [HE.out.1];rfl,HE.out.2⟩
theorem Tryz.xB:(Tryz.prog.info? 3).map (fun i=>(i.zero,i.size,i.bytes))=some (some (.int .i64 0),1,8):=by kernel_rfl
def bM (o:List Nat) (l:Nat):List Nat:=(o.set l (o.getD (l+1) 0)).set (l+1) (o.getD l 0)
theorem kV (o:List Nat) (l:Nat):(bM o l).length=o.length:=by simp [bM]
theorem yN {o:List Nat} {l x:Nat} (hl:l+1<o.length) (h:x∈bM o l):x∈o:=by
 unfold bM at h
 have m0:o.getD l 0∈o:=by rw [List.getD_eq_getElem?_getD,List.getElem?_eq_getElem (by omega)];exact List.getElem_mem _
 have m1:o.getD (l+1) 0∈o:=by rw [List.getD_eq_getElem?_getD,List.getElem?_eq_getElem (by omega)];exact List.getElem_mem _
 rcases mY h with h | h
 ·rcases mY h with h | h
  ·exact h
  ·rw [h];exact m1
 ·rw [h];exact m0
structure afh (o:List Nat) (l:Nat) (w:World) (e:Ending) (w':World):Prop where
 ex:∃ g c:Nat,e=.returned (.slice (some ⟨g,0,none⟩) o.length c)/\w'.ownsRow w.heap.size 3 1 (.slice (some ⟨g,0,none⟩) o.length c) o.length (aQ (bM o l))/\af [] w w'
theorem Cj (l:List Nat) (r n:Nat):(aQ l).set r (.int .i64 n)=aQ (l.set r n):=by simp [aQ,List.map_set]
theorem nM {w:World} {base g n' c n:Nat} {l:List Nat} (h:w.ownsRow base 3 1 (.slice (some ⟨g,0,none⟩) n' c) n (aQ l)) {j:Nat} (hj:j<l.length):w.cell? ⟨g,j,none⟩=some (.int .i64 (l.getD j 0:Nat)):=by
 refine au h ?_
 rw [aQ,List.getElem?_map,List.getElem?_eq_getElem hj,List.getD_eq_getElem?_getD,List.getElem?_eq_getElem hj];rfl
theorem QD {w:World} {base g c n:Nat} {o:List Nat} {l:Nat} (h:w.ownsRow base 3 1 (.slice (some ⟨g,0,none⟩) n c) n (aQ o)) (hl:l+1<n) :
  ((w.setCell ⟨g,l,none⟩ (.int .i64 (o.getD (l+1) 0:Nat))).setCell ⟨g,l+1,none⟩ (.int .i64 (o.getD l 0:Nat))).ownsRow base 3 1 (.slice (some ⟨g,0,none⟩) n c) n (aQ (bM o l)):=by
 have h1:=dL h (j:=l) (by omega) (.int .i64 (o.getD (l+1) 0:Nat));rw [Cj] at h1;have h2:=dL h1 (j:=l+1) (by omega) (.int .i64 (o.getD l 0:Nat));rw [Cj] at h2;exact h2
theorem zH (b0:Nat) (v:Value) (o:List Nat) (l:Nat) (w:World) (h:w.ownsRow b0 3 1 v o.length (aQ o)) (hl:l+1<o.length) (ho:o.length<=64) :
  Calls Tryz.prog 141 #[v,.int .i64 l] w fun e w'=>afh o l w e w':=by
 obtain ⟨ti,eU,fE,dR,fU⟩:=info_parts Tryz.xB;have HI:=Lib.hid (And.intro eU (And.intro fE (And.intro dR fU)))
 obtain ⟨g0,c0,rfl⟩ : ∃ g0 c0,v=.slice (some ⟨g0,0,none⟩) o.length c0:=by
  obtain ⟨a,c,hv,_⟩:=aj h;rw [hv] at h;obtain ⟨g,rfl⟩:=bC h (by omega);exact ⟨g,c,hv⟩
 have HW:=Lib.hid h
 have HL1:Hid (∀ u,u∈aQ o->u.oneCell'=true):=by intro u hu;simp [aQ] at hu;obtain ⟨x,_,rfl⟩:=hu;rfl
 have akc:Hid ((aQ o).length=o.length*1):=by show _=_;simp [aQ]
 clear h eU fE dR fU
 go_enter Tryz.func141,Tryz.ntmps141
 go_wp2_with (at_builtin;go_must (refine wpList_append_lies _ rfl (.tmp 6) (.tmp 7) 23 rfl w.heap.size 3 ti _ 1 8 Tryz.underlying23 HI.out.1 HI.out.2.1 HI.out.2.2.1 HI.out.2.2.2 (by rfl) (by decide) _ 0 [] rfl (World.ownsRow_nil _ _ _ _) ⟨g0,0,none⟩ o.length c0 (aQ o) rfl akc.out ?c1 HL1.out (by omega) (by unfold maxLen;omega) (by omega) (by omega) _ rfl ?_))
 case c1=>exact fun j u hj=>HW.out.cells (g:=g0) rfl j u hj
 intro g5 cap w5 aK dh bI kF
 have hup:af [] w w5:=(af.refl [] w).grown dh (by simp [Value.ownBlock]);have e0:=nM aK (j:=l) (by omega);have e1:=nM aK (j:=l+1) (by omega);have f0:=aS aK l;have f1:=aS aK (l+1);have hE:=QD aK hl;have HE:=Lib.hid (And.intro hE (And.intro hup (aK.lt g5 rfl).1));generalize o.getD l 0=X at *;generalize o.getD (l+1) 0=Y at *
 have wM:(l:Int)<(o.length:Int):=by omega
 have Ag:(l:Int)+1<(o.length:Int):=by omega
 have pX:IntKind.i64.wrap ((l:Int)+1)=(l:Int)+1:=IntWalk.i64_in _ (by omega)
 have AO:((l:Int)+1).toNat=l+1:=by omega
 have hp1:(0:Int)<=(l:Int)+1:=by omega
 clear aK dh bI kF hup hE;go_wp2_with fail
 go_region
 go_wp2_with fail;go_ret;exact ⟨g5,cap,rfl,HE.out.1,((HE.out.2.1.setCell (p:=⟨g5,l,none⟩) (.inr HE.out.2.2) _).setCell (p:=⟨g5,l+1,none⟩) (.inr HE.out.2.2) _).drew⟩
def MV.U (M:MV) (l:Nat):Nat:=(bz (M.lev.flatten++(iJ (bz M.tabs) (bM M.order l)).flatten)).length
theorem MV.Fit.tl {M:MV} (h:M.Fit):M.tabs.length<=65536:=by unfold MV.tabs;rw [List.length_map];exact h.hl
theorem MV.Fit.OY {M:MV} (h:M.Fit):M.lev.flatten.length<=135168000 :=
 FV h.ol (by have:=iw M.tabs;have:=h.tl;omega)
theorem MV.Fit.Jz {M:MV} (h:M.Fit) (l:Nat):(iJ (bz M.tabs) (bM M.order l)).flatten.length<=135168000 :=
 FV (by rw [kV];exact h.ol) (by have:=iw M.tabs;have:=h.tl;omega)
theorem tK {L:List (List TV)} {i:Nat} {l:List TV} (h:L[i]?=some l):(L.take (i+1)).flatten=(L.take i).flatten++l:=by
 rw [List.take_add_one,h];simp [List.flatten_append]
theorem iI.far {w w':World} {n0:Nat} {Z:List Nat} {v:Value} {L:List TV} (h:iI w n0 Z v L) {k0:Option Nat} (u:af k0.toList w w') (hn:∀ k,k0=some k->k<n0) (ht:∀ k,k0=some k->∃ cs fr,w.heap[k]?=some (.cells cs 122 fr)):iI w' n0 Z v L:=by
 obtain ⟨cs,h1,h2,h3⟩:=h.ex;refine ⟨⟨cs,h1,ai h2 fun k hk=>u.block k (h2.lt k hk).2 fun hm=>?_,fun i t c hi hc=>?_⟩,h.fr⟩
 ·have h4:=hn k (Option.mem_toList.1 hm)
  have h5:=(h2.lt k hk).1;omega
 ·have h6:=h3 i t c hi hc
  refine ⟨h6.ok,ai h6.row fun k hk=>u.block k (h6.row.lt k hk).2 fun hm=>?_,h6.fr⟩;obtain ⟨c1,f1,e1⟩:=ht k (Option.mem_toList.1 hm);obtain ⟨c2,f2,e2⟩:=bT h6.row hk;rw [e1] at e2
  injection e2 with e2
  injection e2 with _ e2 _
  exact absurd e2 (by decide)
theorem yw.far {w w':World} {n0:Nat} {Z:List Nat} {v:Value} {L:List (List TV)} (h:yw w n0 Z v L) {k0:Option Nat} (u:af k0.toList w w') (hn:∀ k,k0=some k->k<n0) (ht:∀ k,k0=some k->∃ cs fr,w.heap[k]?=some (.cells cs 122 fr)):yw w' n0 Z v L:=by
 obtain ⟨cs,h1,h2,h3⟩:=h.ex;refine ⟨⟨cs,h1,ai h2 fun k hk=>u.block k (h2.lt k hk).2 fun hm=>?_,fun i t c hi hc=>(h3 i t c hi hc).far u hn ht⟩,h.fr⟩;have h4:=hn k (Option.mem_toList.1 hm);have h5:=(h2.lt k hk).1;omega
theorem ab3 (m:Nat) (M:MV) (p:bG) (Z:List Nat) (l:Nat) (w:World) (h:fH w m M p Z) (hZ:∀ k,k∈Z->k<w.heap.size) (hf:M.Fit) (hl:l+1<M.order.length) :
  Calls Tryz.prog 72 #[.pointer (some ⟨m,0,none⟩),.int .i64 l] w fun e w'=>e=.returned (.int .i64 (M.U l:Nat))/\af [] w w':=by
 obtain ⟨ti,eU,fE,dR,fU⟩:=info_parts Tryz.infoTable;have HI:=Lib.hid (And.intro eU (And.intro fE (And.intro dR fU)));obtain ⟨oa,oc,sH,_⟩:=aj h.os;obtain ⟨_,_,c2,_,_⟩:=h.cells;rw [sH] at c2;have zG:=h.os;rw [sH] at zG;have HOS:=Lib.hid zG;have HM:=Lib.hid h;have HF:=Lib.hid hf
 have HZ:Hid (∀ x:World,af [] w x->∀ k,k∈Z->k<x.heap.size):=fun x u k hk=>Nat.lt_of_lt_of_le (hZ k hk) u.size
 have QA:=Lib.hid (Hw m M p Z w h hZ hf);have Eo:=hf.OY;have BC:=hf.Jz l;have xC:=hf.Yk
 have yB:(iJ (bz M.tabs) (bM M.order l)).length<=8:=by rw [xy,kV];exact hf.ol
 have Hu:=hf.tl;have yC:=hf.ol;have HD:Hid (M.U l=(bz (M.lev.flatten++(iJ (bz M.tabs) (bM M.order l)).flatten)).length):=rfl;generalize M.lev=LV at *;obtain ⟨Ja,ab4⟩ : ∃ L,iJ (bz M.tabs) (bM M.order l)=L:=⟨_,rfl⟩;have SL:=Lib.hid ab4;rw [ab4] at BC HD yB;clear h hZ hf sH zG eU fE dR fU ab4
 go_enter Tryz.func72,Tryz.ntmps72
 go_wp2_with fail;refine QA.out.mono ?_;rintro e w1 hE;obtain ⟨lv,rfl,hL,iq⟩:=hE.ex;obtain ⟨aa,ac,hav,hag⟩:=hL.form;subst hav;have HL:=Lib.hid (And.intro hL iq);have Cm:=Lib.hid (HZ.out w1 iq);clear hL iq hE QA;go_wp2_with fail
 go_loopg [5,13] LV.length (fun g s5 s13 wr=>∃ i:Nat,LV.length-i=g/\i<=LV.length/\s13=.int .i64 i/\iI wr w1.heap.size Z s5 (LV.take i).flatten/\af [] w1 wr)
 case atStart=>exact ⟨0,by omega,by omega,rfl,by simpa using iI.nil w1 w1.heap.size Z,af.refl _ _⟩
 case round =>
  obtain ⟨i,rfl,hi,rfl,hT,hU⟩:=hrel
  by_cases aW:i<LV.length
  ·obtain ⟨c,hc⟩ : ∃ c,LV[i]?=some c:=⟨_,List.getElem?_eq_getElem aW⟩
   obtain ⟨ga,rfl⟩:=hag (by omega);obtain ⟨cl,x0,Hu⟩:=(HL.out.1.keep0 hU).at_ hc;obtain ⟨A,cc,ys,hcf,hA,aC,SI,Z9,hy1⟩:=Hu.src;subst hcf;obtain ⟨xs,Yl⟩:=hT.row;have SN:=Nat.le_trans (qL LV (i+1)) Eo;have HS:=Lib.hid (tK hc);rw [HS.out,List.length_append] at SN;have HP:=Lib.hid (And.intro hT (And.intro Hu (And.intro hU Yl)));have HY:=Lib.hid (And.intro hA (And.intro aC (And.intro SI (And.intro Z9 hy1))));have dG:=hU.size
   have fF:(i:Int)<(LV.length:Int):=by omega
   generalize (LV.take i).flatten=CU at *;generalize Ye:c.length=cn at *;have BQ:=Lib.hid Ye;clear hT hU hc Hu Yl hA aC SI Z9 hy1 Ye
   go_wp2_with (at_builtin;go_must (refine iY rfl (.tmp 17) (.tmp 18) 22 rfl w1.heap.size 122 ti _ 2 32 Tryz.underlying22 HI.out.1 HI.out.2.1 HI.out.2.2.1 HI.out.2.2.2 (by rfl) (by decide) _ CU.length xs rfl HP.out.2.2.2 A cn cc ys rfl HY.out.1 HY.out.2.2.1 HY.out.2.2.2.1 HY.out.2.2.2.2 (by unfold maxLen;omega) (by omega) dG ?_))
   intro v5 w5 aK dh bI
   have HE:Hid (iI w5 w1.heap.size Z v5 (CU++c)/\af [] w1 w5):=by
    have hp:=HP.out.1.cat HP.out.2.1 Cm.out dh HP.out.2.2.2 (by rw [BQ.out];exact HY.out.2.1) (by rw [BQ.out];exact aK);refine ⟨hp.1,HP.out.2.2.1.then hp.2 fun k hk=>.inr ?_⟩;have dB:=Option.mem_toList.1 hk;exact (HP.out.2.2.2.lt k dB).1
   clear aK dh bI;go_wp2_with fail
   go_roundg (LV.length-(i+1))
   case measure=>omega
   case rel=>exact ⟨i+1,rfl,by omega,by simp,by rw [HS.out];exact HE.out.1,HE.out.2⟩
  ·obtain rfl:i=LV.length:=by omega
   have fF:¬ ((LV.length:Int)<(LV.length:Int)):=by omega
   rw [List.take_length] at hT;have AX:=Lib.hid (And.intro hT (And.intro hU (HL.out.2.trans hU)));have d2:=AX.out.2.2.cell0 c2;have Jw:=Lib.hid (tJ m M p Z wr.drew ((HM.out.keep0 AX.out.2.2).keep0 (af.refl _ _).drew) (HZ.out _ AX.out.2.2.drew) (by have:=HF.out.hl;omega));clear hT hU;go_wp2_with fail
   go_region_held3 (fun w'=>w'.cell? ⟨m,2,none⟩=some (.slice oa M.order.length oc)) (first | exact d2 | exact HT.out.2.cell0 d2 | exact (HT.out.2.trans HN.out.2).cell0 d2 | exact ((HT.out.2.trans HN.out.2).trans HS.out.2).cell0 d2) (first | (go_at_call 149;refine Jw.out.mono ?_;rintro e w3 hE;obtain ⟨cf,rfl,hT,hu⟩:=hE.ex;have HT:=Lib.hid (And.intro hT hu.jf);clear hE hT hu) | (go_at_call 141;refine (zH 0 _ M.order l _ (ai HOS.out fun k hk=>(AX.out.2.2.trans HT.out.2).block k (HOS.out.lt k hk).2 (by simp)) hl (by omega)).mono ?_;rintro e w4 hE;obtain ⟨tg,tc,rfl,hN,hu⟩:=hE.ex;have HN:=Lib.hid (And.intro hN hu);clear hE hN hu) | (go_at_call 148;refine (tq _ _ Z _ _ M.tabs (bM M.order l) M.n _ (HT.out.1.keep0 HN.out.2) (HZ.out _ ((AX.out.2.2.trans HT.out.2).trans HN.out.2)) (by omega) (fun t ht=>(HF.out.tn t ht).2) HF.out.n6 (by rw [kV];exact HN.out.1) (by rw [kV];exact yC) (fun x hx=>HF.out.on x (yN hl hx))).mono ?_;rintro e w5 hE;obtain ⟨cf2,rfl,hS,hu⟩:=hE.ex;rw [SL.out] at hS;obtain ⟨ba,bc,UD,LD⟩:=hS.form;subst UD;have HS:=Lib.hid (And.intro hS hu);clear hE hS hu))
   obtain ⟨xs1,CB⟩:=AX.out.1.row;have HK0:=Lib.hid (And.intro (fun k (hk:u5.ownBlock=some k)=>(CB.lt k hk)) (And.intro (HT.out.2.trans HN.out.2).size (fun k (hk:u5.ownBlock=some k)=>bT (ai CB fun k hk=>((HT.out.2.trans HN.out.2).trans HS.out.2).block k (CB.lt k hk).2 (by simp)) hk)));have HW:=Lib.hid (And.intro (AX.out.1.keep0 ((HT.out.2.trans HN.out.2).trans HS.out.2)) (And.intro HS.out.1 (((AX.out.2.2.trans HT.out.2).trans HN.out.2).trans HS.out.2)));have hsw:=HW.out.2.2.size;have xe:=HL.out.2.size;have dR:=Nat.le_trans AX.out.2.1.size ((HT.out.2.trans HN.out.2).trans HS.out.2).size;obtain ⟨SV,rfl⟩ : ∃ SV:Value,SV=u5:=⟨_,rfl⟩;clear AX HT HN HS Jw d2;go_wp2_with fail
   go_loopg [5,31] Ja.length (fun g s5 s31 wr=>∃ i:Nat,Ja.length-i=g/\i<=Ja.length/\s31=.int .i64 i/\iI wr w1.heap.size Z s5 (LV.flatten++(Ja.take i).flatten)/\af SV.ownBlock.toList w5 wr/\(∀ k,s5.ownBlock=some k->SV.ownBlock=some k\/w5.heap.size<=k))
   case atStart=>exact ⟨0,by omega,by omega,rfl,by simpa using HW.out.1,af.refl _ _,fun k hk=>.inl hk⟩
   case round =>
    obtain ⟨i,rfl,hi,rfl,hT,hU,hB⟩:=hrel
    by_cases aW:i<Ja.length
    ·obtain ⟨c,hc⟩ : ∃ c,Ja[i]?=some c:=⟨_,List.getElem?_eq_getElem aW⟩
     obtain ⟨ga,rfl⟩:=LD (by omega);obtain ⟨cl,x0,Hu⟩:=(HW.out.2.1.far hU (fun k hk=>by have:=HK0.out.1 k hk;have:=HK0.out.2.1;omega) HK0.out.2.2).at_ hc;obtain ⟨A,cc,ys,hcf,hA,aC,SI,Z9,hy1⟩:=Hu.src;subst hcf;obtain ⟨xs,Yl⟩:=hT.row;have SN:=Nat.le_trans (qL Ja (i+1)) BC;have HS:=Lib.hid (tK hc);rw [HS.out,List.length_append] at SN;have HP:=Lib.hid (And.intro hT (And.intro Hu (And.intro hU (And.intro Yl hB))));have HY:=Lib.hid (And.intro hA (And.intro aC (And.intro SI (And.intro Z9 hy1))));have dG:=hU.size
     have fF:(i:Int)<(Ja.length:Int):=by omega
     have QE:(LV.flatten++(Ja.take i).flatten).length+c.length<=270336000:=by rw [List.length_append];omega
     have HAS:Hid (LV.flatten++(Ja.take (i+1)).flatten=LV.flatten++(Ja.take i).flatten++c):=by
      show _=_
      rw [HS.out,List.append_assoc]
     generalize LV.flatten++(Ja.take i).flatten=CU at *;generalize Ye:c.length=cn at *;have BQ:=Lib.hid Ye;clear hT hU hc Hu Yl hA aC SI Z9 hy1 Ye hB SN
     go_wp2_with (at_builtin;go_must (refine iY rfl (.tmp 35) (.tmp 36) 22 rfl w1.heap.size 122 ti _ 2 32 Tryz.underlying22 HI.out.1 HI.out.2.1 HI.out.2.2.1 HI.out.2.2.2 (by rfl) (by decide) _ CU.length xs rfl HP.out.2.2.2.1 A cn cc ys rfl HY.out.1 HY.out.2.2.1 HY.out.2.2.2.1 HY.out.2.2.2.2 (by unfold maxLen;omega) (by omega) (by omega) ?_))
     intro v6 w6 aK dh bI
     have HE:Hid (iI w6 w1.heap.size Z v6 (CU++c)/\af SV.ownBlock.toList w5 w6/\(∀ k,v6.ownBlock=some k->SV.ownBlock=some k\/w5.heap.size<=k)):=by
      have hp:=HP.out.1.cat HP.out.2.1 Cm.out dh HP.out.2.2.2.1 (by rw [BQ.out];exact HY.out.2.1) (by rw [BQ.out];exact aK);refine ⟨hp.1,HP.out.2.2.1.then hp.2 fun k hk=>?_,fun k hk=>?_⟩
      ·rcases HP.out.2.2.2.2 k (Option.mem_toList.1 hk) with h | h
       ·exact .inl (Option.mem_toList.2 h)
       ·exact .inr h
      ·rcases bI with e | e
       ·exact HP.out.2.2.2.2 k (by rw [<- e];exact hk)
       ·rw [hk] at e
        injection e with e
        right;omega
     clear aK dh bI;go_wp2_with fail
     go_roundg (Ja.length-(i+1))
     case measure=>omega
     case rel=>exact ⟨i+1,rfl,by omega,by simp,by rw [HAS.out];exact HE.out.1,HE.out.2⟩
    ·obtain rfl:i=Ja.length:=by omega
     have fF:¬ ((Ja.length:Int)<(Ja.length:Int)):=by omega
     rw [List.take_length] at hT
     have ZX:af [] w wr:=HW.out.2.2.then hU fun k hk=>.inr (by have:=HK0.out.1 k (Option.mem_toList.1 hk);omega)
     have AX:=Lib.hid (And.intro hT ZX);have OV:=Lib.hid (zD w1.heap.size Z _ (LV.flatten++Ja.flatten) wr hT (HZ.out _ ZX) (by rw [List.length_append];omega));clear hT hU hB ZX;go_wp2_with fail;refine OV.out.mono ?_;rintro e w7 hE;obtain ⟨uv,rfl,hN,Ez⟩:=hE.ex;obtain ⟨na,nc,hnv,_⟩:=hN.form;have HU7:=Lib.hid (AX.out.2.trans Ez);have hlb:=iw (LV.flatten++Ja.flatten);rw [List.length_append] at hlb;rw [<- HD.out] at hnv hlb;subst hnv;clear hE hN Ez OV AX;go_wp2_with fail;go_ret;exact ⟨rfl,HU7.out⟩
end Go.Proofs.YtfkopmhpppeheaaGreat
