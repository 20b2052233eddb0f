import Derived.Test.YtdackeldhdchaaaGreatPR17
import Derived.Test.YtdackeldhdchaaaGreatPR15
import Derived.Test.YtdackeldhdchaaaGreatPR3
import Derived.Test.YtdackeldhdchaaaGreatPR4
import Derived.WideKeyEntry
set_option maxRecDepth 100000
set_option maxHeartbeats 3200000
namespace Go.Proofs.YtdackeldhdchaaaGreat
open Go.RowKit Go.Maps Go.ChangeMaps Go.WideShapes
def bV.flat (x:Nat) (c:bV):List Value:=[.int .u32 c.r,.int .i64 x,.int .u32 c.lo,.int .u32 c.hi,.int .u32 c.a00,.int .u32 c.a01,.int .u32 c.a10,.int .u32 c.a11]
def jE (x:Nat) (C:List bV):List Value:=C.flatMap (bV.flat x)
theorem kH (x:Nat):∀ (C:List bV) (i:Nat) (c:bV),C[i]?=some c->∀ k,k<8->(jE x C)[i*8+k]?=(c.flat x)[k]?
 | [],i,c,h,_,_=>by simp at h
 | d::C,0,c,h,k,hk=>by
  simp at h;subst h
  show ((d.flat x)++jE x C)[0*8+k]?=_
  rw [List.getElem?_append_left (by simp [bV.flat];omega)]
  congr 1;omega
 | d::C,i+1,c,h,k,hk=>by
  have ih:=kH x C i c (by simpa using h) k hk
  show ((d.flat x)++jE x C)[(i+1)*8+k]?=_
  rw [List.getElem?_append_right (by simp [bV.flat];omega),<- ih]
  congr 1;simp [bV.flat];omega
def bV.R32 (c:bV):Prop:=c.r<=4294967295/\c.lo<=4294967295/\c.hi<=4294967295/\c.a00<=4294967295/\c.a01<=4294967295/\c.a10<=4294967295/\c.a11<=4294967295
theorem EL {W:World} {mb:Nat} (h:W.heap[mb]?=some (.map #[] 0)):W.ownsMap Tryz.prog 142 (plainElem (H:=Unit) Tryz.prog 3) mb 0 (.map []):=by
 obtain ⟨es,clock,q1,q2,q3,q4⟩:=World.ownsMap_made W Tryz.prog 142 (plainElem (H:=Unit) Tryz.prog 3);rw [heap_alloc_new] at q1;cases q1;exact ⟨#[],0,h,q2,Nat.zero_le _,rfl⟩
structure iL (x:Nat) (N:List (Nat × Nat)) (D:DM):Prop where
 im:IsMap D
 has:∀ k,Maps.has D k=true↔∃ q,q∈N/\k=nk x q.1 q.2
 sz:Maps.size D=N.length
 ub:∀ q,q∈N->q.1<=4294967295/\q.2<=4294967295
theorem iL.nil (x:Nat):iL x [] (.map []):=⟨isMap_empty,fun k=>by simp [Maps.has],rfl,by simp⟩
theorem iL.mem {x:Nat} {N:List (Nat × Nat)} {D:DM} (h:iL x N D) (hx:x<=64) {a d:Nat} (ha:a<=4294967295) (hd:d<=4294967295):Maps.has D (nk x a d)=true↔(a,d)∈N:=by
 rw [h.has];constructor
 ·rintro ⟨q,hq,e⟩
  have hu:=h.ub q hq;obtain ⟨_,e1,e2⟩:=oN (vN (by omega) (by omega)) (jO ha) (jO hd) (vN (by omega) (by omega)) (jO hu.1) (jO hu.2) e;have:q=(a,d):=Prod.ext e1.symm e2.symm
  rw [<- this];exact hq
 ·intro hq;exact ⟨(a,d),hq,rfl⟩
theorem iL.again {x:Nat} {N:List (Nat × Nat)} {D:DM} (h:iL x N D) (hx:x<=64) (ht:Tidy D) {a d:Nat} (ha:a<=4294967295) (hd:d<=4294967295) (hm:(a,d)∈N) (v:DataW Unit):iL x N (D.put (nk x a d) v):=by
 refine ⟨h.im.put _ _,fun k=>?_,?_,h.ub⟩
 ·by_cases e:k=nk x a d
  ·subst e
   rw [has_put_same h.im (iW _ _ _)];exact ⟨fun _=>⟨(a,d),hm,rfl⟩,fun _=>rfl⟩
  ·rw [has_put_other e];exact h.has k
 ·rw [size_put ht,if_pos ((h.mem hx ha hd).2 hm)];exact h.sz
theorem iL.new {x:Nat} {N:List (Nat × Nat)} {D:DM} (h:iL x N D) (hx:x<=64) (ht:Tidy D) {a d:Nat} (ha:a<=4294967295) (hd:d<=4294967295) (hm:(a,d)∉N) (v:DataW Unit):iL x (N++[(a,d)]) (D.put (nk x a d) v):=by
 refine ⟨h.im.put _ _,fun k=>?_,?_,fun q hq=>?_⟩
 ·by_cases e:k=nk x a d
  ·subst e
   rw [has_put_same h.im (iW _ _ _)];exact ⟨fun _=>⟨(a,d),by simp,rfl⟩,fun _=>rfl⟩
  ·rw [has_put_other e,h.has]
   constructor
   ·rintro ⟨q,hq,rfl⟩;exact ⟨q,by simp [hq],rfl⟩
   ·rintro ⟨q,hq,rfl⟩
    rcases List.mem_append.1 hq with hq | hq
    ·exact ⟨q,hq,rfl⟩
    ·simp at hq;subst hq;exact absurd rfl e
 ·have bM:Maps.has D (nk x a d)≠true:=fun e=>hm ((h.mem hx ha hd).1 e)
  rw [size_put ht,if_neg bM,h.sz];simp
 ·rcases List.mem_append.1 hq with hq | hq
  ·exact h.ub q hq
  ·simp at hq;subst hq;exact ⟨ha,hd⟩
structure KA (x:Nat) (K:KV) (C:List bV) (w:World) (e:Ending) (w':World):Prop where
 ex:∃ N:List (Nat × Nat),e=.returned (.int .i64 N.length)/\lI K x (C.flatMap bV.qs) N/\af [] w w'
structure fH (w:World) (x mb:Nat) (K:KV) (Q:List (Nat × Nat)) (wr:World):Prop where
 ex:∃ (N:List (Nat × Nat)) (D:DM),lI K x Q N/\iL x N D/\wr.ownsMap Tryz.prog 142 (plainElem (H:=Unit) Tryz.prog 3) mb (Maps.size D) D
 up:af [] w wr
theorem fH.keep {w wr w2:World} {x mb:Nat} {K:KV} {Q:List (Nat × Nat)} (h:fH w x mb K Q wr) (u:af [] wr w2):fH w x mb K Q w2:=by
 obtain ⟨N,D,h1,h2,h3⟩:=h.ex;exact ⟨⟨N,D,h1,h2,bJ h3 (u.block _ h3.lt (by simp))⟩,h.up.trans u⟩
theorem fH.skip {w wr:World} {x mb:Nat} {K:KV} {Q:List (Nat × Nat)} {q:Nat × Nat} (h:fH w x mb K Q wr) (hq:q.1=q.2\/K.has3 x q.1 q.2):fH w x mb K (Q++[q]) wr:=by
 obtain ⟨N,D,h1,h2,h3⟩:=h.ex;exact ⟨⟨N,D,h1.skip (hq.imp id .inl),h2,h3⟩,h.up⟩
theorem vP (w:World):(zeroValue 3).run Tryz.prog w=.ok (.int .i64 0) w:=by kernel_rfl
theorem OW:WideMaps.KeyLaw Tryz.prog 142:=deep_law_gate laidOut (of_decide_eq_true (by kernel_rfl)) (of_decide_eq_true (by kernel_rfl)) (by kernel_rfl) (by kernel_rfl)
theorem mW {W:World} {b:Nat} {es OX:Array MapEntry} {clock lq:Nat} (hb:W.heap[b]?=some (.map es clock)):af [b] W (setBlock W b (.map OX lq)):=iD ⟨es,clock,OX,lq,hb,rfl⟩
open Go.MapKept in
theorem KC {W:World} {mb n:Nat} {D:DM} {key:Value} {kl:Lit} (h:W.ownsMap Tryz.prog 142 (plainElem (H:=Unit) Tryz.prog 3) mb n D) (hn:n<maxLen) (gW:keyOf Tryz.prog 142 key=some kl) :
  ∃ (c0:Int) (st:Value) (W1:World),(Instr.lookup 272 (.map (some mb)) key false).run Tryz.prog W=.ok (.int .i64 c0) W/\(Instr.lookup 272 (.map (some mb)) key false).run Tryz.prog W1=.ok (.int .i64 c0) W1 /\
   (Instr.mapEntry 272 (.map (some mb)) key).run Tryz.prog W=.ok (.tuple #[.int .i64 c0,st]) W1/\af [mb] W W1 /\
   ∀ c:Int,(Lit.int .i64 c).wf=true->∃ W2,(Instr.entryStore 272 (.map (some mb)) st (.int .i64 c)).run Tryz.prog W1=.ok () W2/\W2.ownsMap Tryz.prog 142 (plainElem (H:=Unit) Tryz.prog 3) mb (n+1) (D.put kl (.lit (.int .i64 c)))/\af [mb] W W2:=by
 obtain ⟨c0,lX,bI,U0⟩:=h.lookup_int aW Tryz.underlying272 Tryz.underlying3 (vP _) gW;have h':=h;obtain ⟨es,clock,hb,F,hs,hDD⟩:=h
 have hz:=fun u:World=>vP u
 obtain ⟨v0,st,OX,lq,hE,_,hS⟩:=WideElems.entry_then_store OW Tryz.underlying272 hz hb F gW;have rQ:(setBlock W mb (.map OX lq)).heap[mb]?=some (.map OX lq):=heap_setBlock_same hb _
 have Wu:v0=.int .i64 c0/\(Instr.lookup 272 (.map (some mb)) key false).run Tryz.prog (setBlock W mb (.map OX lq))=.ok (.int .i64 c0) (setBlock W mb (.map OX lq)):=by
  rcases aW.find W gW es.toList F.keys with ⟨h1,h2⟩ | ⟨j,e0,h1,h2,h3⟩
  ·have hl:(Instr.lookup 272 (.map (some mb)) key false).run Tryz.prog W=.ok (.int .i64 0) W:=by
    simp [Instr.lookup,run_underlying Tryz.underlying272,MapKept.run_getObj_map hb,aW.check W _ gW,h1,hz,Result.andThen]
   have BK:c0=0:=by
    rw [lX] at hl
    simpa using hl
   have he:(Instr.mapEntry 272 (.map (some mb)) key).run Tryz.prog W=.ok (.tuple #[.int .i64 0,goInt clock]) (setBlock W mb (.map (es.push ⟨key,.int .i64 0,clock⟩) (clock+1))):=by
    simp [Instr.mapEntry,run_underlying Tryz.underlying272,MapKept.run_getObj_map hb,aW.check W false gW,h1,hz,MapKept.run_setObj_map _ hb,Result.andThen,setBlock]
   have Yx:(Instr.mapUpdate 272 (.map (some mb)) key (.int .i64 0)).run Tryz.prog W=.ok () (setBlock W mb (.map (es.push ⟨key,.int .i64 0,clock⟩) (clock+1))):=by
    simp [Instr.mapUpdate,run_underlying Tryz.underlying272,MapKept.run_getObj_map hb,aW.check W false gW,h1,MapKept.run_setObj_map _ hb,Result.andThen,setBlock]
   rw [hE] at he
   simp only [Result.ok.injEq,Value.tuple.injEq] at he
   obtain ⟨e1,e2⟩:=he
   have e3:v0=.int .i64 0:=by have:=congrArg (fun a:Array Value=>a[0]?) e1;simpa using this
   refine ⟨by rw [e3,BK],?_⟩;obtain ⟨w9,rV,aJ,_⟩:=h'.store aW Tryz.underlying272 hn gW (plainElem_int (H:=Unit) Tryz.underlying3 (vN (n:=0) (by omega) (by omega)));rw [Yx] at rV
   simp only [Result.ok.injEq,true_and] at rV
   rw [e2,BK,rV];obtain ⟨es9,aaz,NW,F9,_,_⟩:=aJ
   have KD:w9.heap[mb]?=some (.map (es.push ⟨key,.int .i64 0,clock⟩) (clock+1)):=by rw [<- rV];exact heap_setBlock_same hb _
   rw [KD] at NW
   simp only [Option.some.injEq,Obj.map.injEq] at NW
   obtain ⟨rfl,rfl⟩:=NW
   rcases Maps.fit_look false aW Tryz.underlying272 (vP w9) KD F9 gW with ⟨hr,_,_⟩ | ⟨x,y,hm,hk,hr,_⟩
   ·simpa using hr
   ·simp only [Array.toList_push,List.mem_append,List.mem_singleton] at hm
    rcases hm with hm | rfl
    ·exact absurd hk (h2 x hm)
    ·simpa using hr
  ·have hj:es[j]?=some e0:=by simpa using h2
   have hl:(Instr.lookup 272 (.map (some mb)) key false).run Tryz.prog W=.ok e0.val W:=by
    simp [Instr.lookup,run_underlying Tryz.underlying272,MapKept.run_getObj_map hb,aW.check W _ gW,h1,Result.andThen]
   have vS:es.modify j (fun e=>{ e with key:=key })=es:=by
    apply Array.ext'
    rw [Array.toList_modify,modify_eq_set _ _ _ _ h2]
    have:({ e0 with key:=key }:MapEntry)=e0:=by rw [<- h3]
    rw [this];exact WideElems.set_self _ _ _ h2
   have he:(Instr.mapEntry 272 (.map (some mb)) key).run Tryz.prog W=.ok (.tuple #[e0.val,goInt e0.born]) (setBlock W mb (.map es clock)):=by
    simp [Instr.mapEntry,run_underlying Tryz.underlying272,MapKept.run_getObj_map hb,aW.check W false gW,h1,hj,h3,aW.stays W gW,vS,MapKept.run_setObj_map _ hb,Result.andThen,setBlock]
   have Wv:setBlock W mb (.map es clock)=W:=by
    have aZ:=aj hb
    have:W.heap.setIfInBounds mb (.map es clock)=W.heap:=by
     apply Array.ext_getElem?
     intro k
     by_cases e:mb=k
     ·subst e;rw [Array.getElem?_setIfInBounds_self_of_lt aZ,hb]
     ·rw [Array.getElem?_setIfInBounds_ne e]
    unfold setBlock;rw [this]
   rw [hE] at he
   simp only [Result.ok.injEq,Value.tuple.injEq] at he
   obtain ⟨e1,e2⟩:=he
   have e3:v0=e0.val:=by have:=congrArg (fun a:Array Value=>a[0]?) e1;simpa using this
   rw [lX] at hl
   simp only [Result.ok.injEq,and_true] at hl
   refine ⟨by rw [e3,hl],?_⟩
   rw [e2,Wv];exact lX
 refine ⟨c0,goInt st,setBlock W mb (.map OX lq),lX,Wu.2,by rw [<- Wu.1];exact hE,mW hb,fun c hc=>?_⟩;obtain ⟨es2,aaA,hS2,VP⟩:=hS (setBlock W mb (.map OX lq)) (.int .i64 c) rQ;obtain ⟨w9,rV,aJ,_⟩:=h'.store aW Tryz.underlying272 hn gW (plainElem_int (H:=Unit) Tryz.underlying3 hc);rw [VP] at rV
 simp only [Result.ok.injEq,true_and] at rV
 refine ⟨_,hS2,bJ aJ ?_,(mW hb).trans (mW rQ)⟩;rw [<- rV,heap_setBlock_same rQ _,heap_setBlock_same hb _]
theorem fH.put {w wr w9:World} {x mb a d:Nat} {K:KV} {Q N:List (Nat × Nat)} {D:DM} {v:DataW Unit} (hu:af [] w wr) (h1:lI K x Q N) (h2:iL x N D) (hx:x<=64) (ht:Tidy D) (ha:a<=4294967295) (hd:d<=4294967295) (hne:a≠d) (bM:¬ K.has3 x a d)
  (hmb:w.heap.size<=mb) (aJ:w9.ownsMap Tryz.prog 142 (plainElem (H:=Unit) Tryz.prog 3) mb (Maps.size (D.put (nk x a d) v)) (D.put (nk x a d) v)) (h9:af [mb] wr w9):fH w x mb K (Q++[(a,d)]) w9:=by
 have KE:af [] w w9:=hu.then h9 fun k hk=>.inr (by simp at hk;omega)
 by_cases hm:(a,d)∈N
 ·exact ⟨⟨N,_,h1.skip (.inr (.inr hm)),h2.again hx ht ha hd hm v,aJ⟩,KE⟩
 ·exact ⟨⟨_,_,h1.add hne bM hm,h2.new hx ht ha hd hm v,aJ⟩,KE⟩
theorem EM (b x:Nat) (K:KV) (T:List DM) (q:aA) (C:List bV) (la:Option Addr) (lc base:Nat) (w:World) (h:dH w b K T q) (hx:x<K.vars) (hC:∀ c,c∈C->c.R32) (hl:C.length<=1048576)
  (hr:w.ownsRow base 226 8 (.slice la C.length lc) C.length (jE x C)) :
  Calls Tryz.prog 144 #[.pointer (some ⟨b,0,none⟩),.int .i64 x,.slice la C.length lc] w fun e w'=>KA x K C w e w':=by
 have Ht:=@run_makeMap Tryz.prog;have DJ:=h.ok.wf.vs;have hlen:=h.ti.len;have hD:T[x]?=some (T[x]'(by omega)):=List.getElem?_eq_getElem (by omega);generalize T[x]'(by omega)=DX at hD;have DL:Hid (fH w x w.heap.size K [] (w.alloc (.map #[] 0))):=⟨⟨[],.map [],lI.nil K x,iL.nil x,EL (heap_alloc_new w _)⟩,(af.refl [] w).alloc _⟩
 have HK:Hid (∀ y:World,af [] w y->dH y b K T q):=fun y u=>h.upd u (by simp)
 have HR:Hid (∀ y:World,af [] w y->y.ownsRow base 226 8 (.slice la C.length lc) C.length (jE x C)):=fun y u=>ah hr fun k hk=>u.block k (hr.lt k hk).2 (by simp)
 have HC:=Lib.hid hC;have HD:=Lib.hid hD;have HW:=Lib.hid (And.intro h.ok.wf h.ti)
 have U1:Hid (∀ y:World,af [] w y->y.cell? ⟨b,1,none⟩=some (.pointer (some ⟨q.t,0,none⟩))):=fun y u=>u.cellK (ae h.mem.blk rfl)
 clear h hr hC hD hlen
 go_enter Tryz.func144,Tryz.ntmps144
 go_wp2_with fail
 go_loopg [17] C.length (fun gg s17 wr=>∃ i:Nat,C.length-i=gg/\i<=C.length/\s17=.int .i64 i/\fH w x w.heap.size K ((C.take i).flatMap bV.qs) wr)
 case atStart=>exact ⟨0,by omega,by omega,rfl,by simpa using DL.out⟩
 case round =>
  obtain ⟨i,rfl,hi,rfl,hF⟩:=hrel
  by_cases aZ:i<C.length
  ·obtain ⟨c,hc⟩ : ∃ c,C[i]?=some c:=⟨_,List.getElem?_eq_getElem aZ⟩
   have aB:=HR.out wr hF.up;obtain ⟨gl,rfl⟩:=bY aB (by omega);have hg:=kH x C i c hc;have c0:=ax aB (j:=i*8+0) (u:=.int .u32 c.r) (by rw [hg 0 (by omega)];rfl);have c1:=ax aB (j:=i*8+1) (u:=.int .i64 x) (by rw [hg 1 (by omega)];rfl);have c2:=ax aB (j:=i*8+2) (u:=.int .u32 c.lo) (by rw [hg 2 (by omega)];rfl);have c3:=ax aB (j:=i*8+3) (u:=.int .u32 c.hi) (by rw [hg 3 (by omega)];rfl);have c4:=ax aB (j:=i*8+4) (u:=.int .u32 c.a00) (by rw [hg 4 (by omega)];rfl);have c5:=ax aB (j:=i*8+5) (u:=.int .u32 c.a01) (by rw [hg 5 (by omega)];rfl);have c6:=ax aB (j:=i*8+6) (u:=.int .u32 c.a10) (by rw [hg 6 (by omega)];rfl);have c7:=ax aB (j:=i*8+7) (u:=.int .u32 c.a11) (by rw [hg 7 (by omega)];rfl);rw [Nat.add_zero] at c0
   have fE:(i:Int)<(C.length:Int):=by omega
   have Wx:=HC.out c (List.mem_of_getElem? hc);have HCI:=Lib.hid (And.intro hc Wx);have HF:=Lib.hid hF;have bf:=heap_alloc_new wr (.cells #[.int .u32 c.r,.int .i64 x,.int .u32 c.lo,.int .u32 c.hi,.int .u32 c.a00,.int .u32 c.a01,.int .u32 c.a10,.int .u32 c.a11] 226 (0,0));have z0:=ae (j:=0) bf rfl;have z4:=ae (j:=4) bf rfl;have z5:=ae (j:=5) bf rfl;have z6:=ae (j:=6) bf rfl;have z7:=ae (j:=7) bf rfl;clear hF aB hg hc bf Wx;go_wp2_with fail;obtain ⟨wI,YN⟩ : ∃ wI,((wr.alloc (.cells #[.int .u32 c.r,.int .i64 x,.int .u32 c.lo,.int .u32 c.hi,.int .u32 c.a00,.int .u32 c.a01,.int .u32 c.a10,.int .u32 c.a11] 226 (0,0))).alloc (.cells #[.int .i64 x,.int .u32 c.a00,.int .u32 c.a10,.int .i64 x,.int .u32 c.a01,.int .u32 c.a11] 142 (0,0)))=wI:=⟨_,rfl⟩
   have hB:wI.heap[wr.heap.size+1]?=some (.cells #[.int .i64 x,.int .u32 c.a00,.int .u32 c.a10,.int .i64 x,.int .u32 c.a01,.int .u32 c.a11] 142 (0,0)):=by
    have h:=heap_alloc_new (wr.alloc (.cells #[.int .u32 c.r,.int .i64 x,.int .u32 c.lo,.int .u32 c.hi,.int .u32 c.a00,.int .u32 c.a01,.int .u32 c.a10,.int .u32 c.a11] 226 (0,0))) (.cells #[.int .i64 x,.int .u32 c.a00,.int .u32 c.a10,.int .i64 x,.int .u32 c.a01,.int .u32 c.a11] 142 (0,0));rw [World.size_alloc] at h
    rw [<- YN];exact h
   have hFI:fH w x w.heap.size K ((C.take i).flatMap bV.qs) wI:=HF.out.keep (by rw [<- YN];exact ((af.refl [] wr).alloc _).alloc _)
   have hBn:w.heap.size≠wr.heap.size+1:=by have:=HF.out.up.size;omega
   rw [YN];generalize wr.heap.size+1=B at *;generalize wr.heap.size=B9 at *;have HI:=Lib.hid (And.intro hFI hB);clear YN hB hFI z0 z4 z5 z6 z7 c0 c1 c2 c3 c4 c5 c6 c7 HF
   go_loopg [35] 2 (fun gg s35 wy=>∃ j:Nat,2-j=gg/\j<=2/\s35=.int .i64 j/\fH w x w.heap.size K ((C.take i).flatMap bV.qs++c.qs.take j) wy/\wy.heap[B]?=some (.cells #[.int .i64 x,.int .u32 c.a00,.int .u32 c.a10,.int .i64 x,.int .u32 c.a01,.int .u32 c.a11] 142 (0,0)))
   case atStart=>exact ⟨0,by omega,by omega,rfl,by simpa using HI.out.1,HI.out.2⟩
   case round =>
    obtain ⟨j,rfl,hj,rfl,hF,hB⟩:=hrel
    by_cases hjt:j<2
    ·have Dv:(j:Int)<2:=by omega
     have hq0:∃ a d:Nat,c.qs[j]?=some (a,d)/\(a<=4294967295/\d<=4294967295)/\wr.cell? ⟨B,j*3,none⟩=some (.int .i64 x)/\wr.cell? ⟨B,j*3+1,none⟩=some (.int .u32 a)/\wr.cell? ⟨B,j*3+2,none⟩=some (.int .u32 d):=by
      obtain ⟨_,_,_,e1,e2,e3,e4⟩:=HCI.out.2
      match j,hjt with
      | 0,_=>exact ⟨c.a00,c.a10,rfl,⟨e1,e3⟩,ae hB rfl,ae hB rfl,ae hB rfl⟩
      | 1,_=>exact ⟨c.a01,c.a11,rfl,⟨e2,e4⟩,ae hB rfl,ae hB rfl,ae hB rfl⟩
     obtain ⟨a,d,hqj,⟨ha,hd⟩,y0,y1,y2⟩:=hq0
     have jJ:c.qs.take (j+1)=c.qs.take j++[(a,d)]:=by rw [List.take_add_one,hqj];rfl
     have fF:af [] wr (wr.alloc (.cells #[.int .i64 x,.int .u32 a,.int .u32 d] 142 (0,0))):=(af.refl [] wr).alloc _;have bf:=heap_alloc_new wr (.cells #[.int .i64 x,.int .u32 a,.int .u32 d] 142 (0,0))
     have HX:Hid (∀ z:World,af [] (wr.alloc (.cells #[.int .i64 x,.int .u32 a,.int .u32 d] 142 (0,0))) z->z.cell? ⟨b,1,none⟩=some (.pointer (some ⟨q.t,0,none⟩))/\z.cell? ⟨wr.heap.size,0,none⟩=some (.int .i64 x)/\z.cell? ⟨wr.heap.size,1,none⟩=some (.int .u32 a)/\z.cell? ⟨wr.heap.size,2,none⟩=some (.int .u32 d)):=fun z u =>
      ⟨U1.out z (hF.up.trans (fF.trans u)),u.cellK (ae (j:=0) bf rfl),u.cellK (ae (j:=1) bf rfl),u.cellK (ae (j:=2) bf rfl)⟩
     have YO:Hid (∀ z:World,af [] (wr.alloc (.cells #[.int .i64 x,.int .u32 a,.int .u32 d] 142 (0,0))) z->dC z q.t T q.FT):=fun z u=>(HK.out z (hF.up.trans (fF.trans u))).mem.tab
     have U2:=Lib.hid (And.intro hF (And.intro hB fF));have F8:=Lib.hid jJ;obtain ⟨x0,x1,x2,x3⟩:=HX.out _ (af.refl _ _);clear hF hB hqj jJ fF bf;go_wp2_with fail
     go_region_held3 (fun z=>z.cell? ⟨b,1,none⟩=some (.pointer (some ⟨q.t,0,none⟩))/\z.cell? ⟨wr.heap.size,0,none⟩=some (.int .i64 x)/\z.cell? ⟨wr.heap.size,1,none⟩=some (.int .u32 a)/\z.cell? ⟨wr.heap.size,2,none⟩=some (.int .u32 d)) (exact HX.out _ (by first | exact dF.out | exact (af.refl [] _).drew | exact af.refl _ _)) (first | (go_at_call 189;refine (find_spec q.t q.FT x a d T DX _ (YO.out _ (by first | exact (af.refl [] _).drew | exact af.refl _ _)) HD.out ha hd).mono ?_;rintro e w2 ⟨c9,rfl,hc,hu⟩;have HL:=Lib.hid (HW.out.2.lookX HW.out.1 hx HD.out ha hd hc);have dF:Hid (af [] (wr.alloc (.cells #[.int .i64 x,.int .u32 a,.int .u32 d] 142 (0,0))) w2):=(by first | exact hu | exact (af.refl [] _).drew.trans hu);clear hc hu))
     have Qw:=Lib.hid (And.intro (U2.out.1.keep (U2.out.2.2.trans dF.out)) (((U2.out.2.2.trans dF.out).block B (aj U2.out.2.1) (by simp)).trans U2.out.2.1));clear x0 x1 x2 x3;obtain ⟨x0,x1,x2,x3⟩:=HX.out w2 dF.out
     cases xJ:Maps.has DX (nk x a d) with
     | true =>
      rw [xJ] at HL
      have HS:Hid (fH w x w.heap.size K ((C.take i).flatMap bV.qs++c.qs.take j++[(a,d)]) w2):=Qw.out.1.skip (.inr (by
       rcases HL.out with ⟨_,r,_,_,r2,p,hp⟩ | ⟨hf,_⟩
       ·exact ⟨r,p,r2,hp⟩
       ·cases hf))
      clear HL xJ;go_wp2_with fail
      go_roundg (2-(j+1))
      case measure=>omega
      case rel=>exact ⟨j+1,rfl,by omega,by simp,by rw [F8.out,<- List.append_assoc];exact HS.out,Qw.out.2⟩
     | false =>
      rw [xJ] at HL
      have Dw:Hid (¬ K.has3 x a d):=fun ⟨r,p,r2,hp,aH,e⟩=>by
       rcases HL.out with ⟨hf,_⟩ | ⟨_,_,bM⟩
       ·cases hf
       ·exact bM r p (by simp) r2 hp aH e
      clear HL xJ
      by_cases OB:a=d
      ·have HS:Hid (fH w x w.heap.size K ((C.take i).flatMap bV.qs++c.qs.take j++[(a,d)]) w2):=Qw.out.1.skip (.inl OB)
       subst OB;go_wp2_with fail
       go_roundg (2-(j+1))
       case measure=>omega
       case rel=>exact ⟨j+1,rfl,by omega,by simp,by rw [F8.out,<- List.append_assoc];exact HS.out,Qw.out.2⟩
      ·have sZ:((a:Int) == (d:Int))=false:=by simp;omega
       have qF:¬ ((a:Int)=(d:Int)):=by omega
       have OV:decide ((a:Int)=(d:Int))=false:=decide_eq_false qF;obtain ⟨N,D,h1,h2,h3⟩:=Qw.out.1.ex;have gW:=yU (v:=(x:Int)) (lo:=a) (hi:=d) (vN (by omega) (by omega)) (jO ha) (jO hd);have NW:=h3.lt
       have df:Maps.size D<maxLen:=by
        rw [h2.sz]
        have:N.length<=((C.take i).flatMap bV.qs++c.qs.take j).length:=List.Nodup.length_le_of_subset h1.nd fun p hp=>((h1.iff p).1 hp).1
        have e1:∀ l:List bV,(l.flatMap bV.qs).length=l.length*2:=fun l=>by
         induction l with
         | nil=>rfl
         | cons e l ih=>rw [List.flatMap_cons,List.length_append,ih,List.length_cons];simp [bV.qs];omega
        rw [List.length_append,e1,List.length_take,List.length_take] at this;unfold maxLen;omega
       obtain ⟨c0,st,W1,lX,adx,ady,fF,Qx⟩:=KC (bJ (w':=w2.drew) h3 rfl) df gW;obtain ⟨w9,BZ,aJ,KE⟩:=Qx _ (wrap64_wf (c0+1))
       have agj:w.heap.size<wr.heap.size:=by obtain ⟨_,_,_,_,h⟩:=U2.out.1.ex;exact h.lt
       have Qo:∀ {k:Nat} {v:Value},w2.cell? ⟨wr.heap.size,k,none⟩=some v->W1.cell? ⟨wr.heap.size,k,none⟩=some v:=fun {k v} hc=>((af.of_drew fF).cell (World.block_lt_of_cell? _ _ hc) (by simp;omega)).trans hc
       have v1:=Qo x1;have v2:=Qo x2;have v3:=Qo x3
       have HS:Hid (fH w x w.heap.size K ((C.take i).flatMap bV.qs++c.qs.take j++[(a,d)]) w9/\w9.heap[B]?=some (.cells #[.int .i64 x,.int .u32 c.a00,.int .u32 c.a10,.int .i64 x,.int .u32 c.a01,.int .u32 c.a11] 142 (0,0))) :=
        ⟨fH.put Qw.out.1.up h1 h2 (by omega) (h3.tidy aW) ha hd OB Dw.out (Nat.le_refl _) (jh aJ) (af.of_drew KE),((af.of_drew KE).block B (aj Qw.out.2) (by simp;omega)).trans Qw.out.2⟩
       clear h1 h2 h3 aJ fF Qx KE df gW OB NW Qo;go_wp2_with fail
       go_region
       go_wp2_with fail
       go_roundg (2-(j+1))
       case measure=>omega
       case rel=>exact ⟨j+1,rfl,by omega,by simp,by rw [F8.out,<- List.append_assoc];exact HS.out.1,HS.out.2⟩
    ·obtain rfl:j=2:=by omega
     have Dv:¬ ((2:Nat):Int)<2:=by omega
     have HE:Hid (fH w x w.heap.size K ((C.take (i+1)).flatMap bV.qs) wr):=by
      show fH w x w.heap.size K ((C.take (i+1)).flatMap bV.qs) wr
      rw [List.take_add_one,HCI.out.1,List.flatMap_append]
      simpa [bV.qs] using hF
     clear hF hB;go_wp2_with fail
     go_roundg (C.length-(i+1))
     case measure=>omega
     case rel=>exact ⟨i+1,rfl,by omega,by simp,HE.out⟩
  ·obtain rfl:i=C.length:=by omega
   have fE:¬ ((C.length:Int)<(C.length:Int)):=by omega
   rw [List.take_length] at hF;obtain ⟨N,D,h1,h2,h3⟩:=hF.ex;have HE:Hid (KA x K C w (.returned (.int .i64 (Maps.size D:Nat))) wr):=⟨N,by rw [h2.sz],h1,hF.up⟩
   have SK:=fun ty=>h3.len Tryz.underlying272 ty
   clear hF h1 h2 h3;go_wp2_with fail;go_ret;exact HE.out
end Go.Proofs.YtdackeldhdchaaaGreat
namespace Go.Proofs.YtdackeldhdchaaaGreat
open Go.RowKit Go.Maps Go.ChangeMaps Go.WideShapes
theorem vT {α : Type}:∀ (l:List α) (j:Nat) (a:α),l[j]?=some a->l.set j a=l
 | [],_,_,h=>by simp at h
 | b::r,0,a,h=>by simp at h;subst h;rfl
 | b::r,j+1,a,h=>by simp at h;simp [vT r j a h]
theorem Hu {L:List au} {r:Nat} {p:au} (hp:L[r]?=some p) (v:Int) (lo hi:Nat) :
  aO (L.set r { p with var:=v,lo:=lo,hi:=hi })=(((aO L).set (r*5) (.int .i64 v)).set (r*5+1) (.int .u32 lo)).set (r*5+2) (.int .u32 hi):=by
 have h3:(aO L)[r*5+3]?=some (.bool p.taken):=by rw [dE _ _ _ (by omega),hp];rfl
 have h4:(aO L)[r*5+4]?=some (.int .u8 p.count):=by rw [dE _ _ _ (by omega),hp];rfl
 rw [Bi]
 show ((((((aO L).set (r*5) (.int .i64 v)).set (r*5+1) (.int .u32 lo)).set (r*5+2) (.int .u32 hi)).set (r*5+3) (.bool p.taken)).set (r*5+4) (.int .u8 p.count))=_
 rw [vT _ (r*5+3),vT _ (r*5+4)]
 ·rw [List.getElem?_set_ne (by omega),List.getElem?_set_ne (by omega),List.getElem?_set_ne (by omega)];exact h4
 ·rw [List.getElem?_set_ne (by omega),List.getElem?_set_ne (by omega),List.getElem?_set_ne (by omega)];exact h3
theorem KF {w:World} {b l lc r lo hi:Nat} {v:Int} {F:List Nat} {fv:Value} {A:ag} {p:au} (dY:A.Ok) (h2:2<=r) (hp:A.list[r]?=some p) (qG:lo<=4294967295/\hi<=4294967295)
  (h5:w.heap[b]?=some (.cells #[.int .i64 A.places,.slice (some ⟨l,0,none⟩) A.list.length lc,fv,.int .i64 A.used] 235 (0,0)))
  (h6:w.ownsRow 0 267 5 (.slice (some ⟨l,0,none⟩) A.list.length lc) A.list.length (aO A.list)) (h7:w.ownsRow 0 77 1 fv A.free.length (aN A.free))
  (hF:F=[b,l]++fv.ownBlock.toList) (jk:b≠l) (uA:some b≠fv.ownBlock) (nS:some l≠fv.ownBlock) :
  aU (((w.setCell ⟨l,r*5,none⟩ (.int .i64 v)).setCell ⟨l,r*5+1,none⟩ (.int .u32 lo)).setCell ⟨l,r*5+2,none⟩ (.int .u32 hi)) b (A.setNode r v lo hi) F /\
   af F w (((w.setCell ⟨l,r*5,none⟩ (.int .i64 v)).setCell ⟨l,r*5+1,none⟩ (.int .u32 lo)).setCell ⟨l,r*5+2,none⟩ (.int .u32 hi)):=by
 have aZ:=(List.getElem?_eq_some_iff.1 hp).1
 have hl:(A.setNode r v lo hi).list=A.list.set r { p with var:=v,lo:=lo,hi:=hi }:=by simp only [ag.setNode,hp]
 have hlen:(A.setNode r v lo hi).list.length=A.list.length:=by rw [hl,List.length_set]
 have sS:(A.setNode r v lo hi).used=A.used:=by simp only [ag.setNode]
 have Qy:(A.setNode r v lo hi).places=A.places:=by simp only [ag.setNode]
 have KG:(A.setNode r v lo hi).free=A.free:=by simp only [ag.setNode]
 refine ⟨⟨⟨l,lc,fv,?_,?_,?_,hF,jk,uA,nS⟩,dY.setNode h2 qG.1 qG.2⟩,?_⟩
 ·rw [hlen,sS,Qy,aI jk,aI jk,aI jk];exact h5
 ·rw [hlen,hl,Hu hp]
  exact dA (dA (dA h6 (by omega) _) (by omega) _) (by omega) _
 ·rw [KG]
  exact aV (aV (aV h7 (a:=⟨l,r*5,none⟩) nS _) (a:=⟨l,r*5+1,none⟩) nS _) (a:=⟨l,r*5+2,none⟩) nS _
 ·exact (((af.refl F w).setCell (p:=⟨l,r*5,none⟩) (.inl (by simp [hF])) _).setCell (p:=⟨l,r*5+1,none⟩) (.inl (by simp [hF])) _).setCell (p:=⟨l,r*5+2,none⟩) (.inl (by simp [hF])) _
theorem OY (b:Nat) (F:List Nat) (r lo hi v:Nat) (A:ag) (p:au) (w:World) (h:aU w b A F) (jr:r<=4294967295) (h2:2<=r) (hp:A.list[r]?=some p) (aH:p.taken=true) (qG:lo<=4294967295/\hi<=4294967295) (hv:v<64) (t1:A.tk lo=true) (t2:A.tk hi=true) :
  Calls Tryz.prog 148 #[.pointer (some ⟨b,0,none⟩),.int .u32 r,.agg #[.int .i64 v,.int .u32 lo,.int .u32 hi]] w fun e w'=>e=.returned (.int .i64 0)/\aU w' b (A.setNode r v lo hi) F/\af F w w':=by
 have HO:Hid (A.ownE r=0):=ag.ownE_ok h2 (ag.tk_iff.2 ⟨p,hp,aH⟩)
 have HC:Hid (A.checkE v lo hi=0):=by
  show A.checkE v lo hi=0
  unfold ag.checkE;rw [if_neg (by omega),if_neg (by simp [t1,t2])]
 have aZ:=(List.getElem?_eq_some_iff.1 hp).1;have HA:=Lib.hid h;have HP:=Lib.hid (And.intro hp h.ok);clear h hp aH t1 t2
 go_enter Tryz.func148,Tryz.ntmps148
 go_wp2_with fail;refine (kS b F v lo hi A _ (HA.out.upd ((af.refl [] w).alloc _) (by simp)) qG.1 qG.2).mono ?_;rintro e w1 ⟨rfl,hu⟩;rw [HC.out];have HU:=Lib.hid (((af.refl [] w).alloc (.cells #[.int .i64 v,.int .u32 lo,.int .u32 hi] 142 (0,0))).trans hu);have bf:=(hu.block _ (aj (heap_alloc_new w (.cells #[.int .i64 v,.int .u32 lo,.int .u32 hi] 142 (0,0)))) (by simp)).trans (heap_alloc_new w _);have x0:=ae (j:=0) bf rfl;have x1:=ae (j:=1) bf rfl;have x2:=ae (j:=2) bf rfl;have oz:=Lib.hid bf;clear hu bf;go_wp2_with fail;refine (Bj b F r A _ (HA.out.upd HU.out (by simp)) jr).mono ?_;rintro e w2 ⟨rfl,rfl⟩;rw [HO.out];have ZR:=HA.out.upd HU.out (by simp);obtain ⟨l,lc,fv,h5,h6,h7,xP,jk,uA,nS⟩:=ZR.cells;have zJ:w1.cell? ⟨b,1,none⟩=some (.slice (some ⟨l,0,none⟩) A.list.length lc):=ae h5 rfl;obtain ⟨g0,g1,g2,_,_,z0,z1,z2,_,_⟩:=rW h6 HP.out.1
 have hlx:w.heap.size≠l:=by
  have hl:=HA.out.lt l
  have:l∈F:=by rw [xP];simp
  have:=hl this;omega
 have HE:=Lib.hid (KF (v:=v) HP.out.2 h2 HP.out.1 qG (w:=w1.drew) h5 (iV h6) (iV h7) xP jk uA nS)
 have hri:(r:Int)<(A.list.length:Int):=by omega
 clear h5 h6 h7 ZR xP uA nS;go_wp2_with fail
 go_region
 go_wp2_with fail;go_ret;exact ⟨rfl,HE.out.1,((HU.out.mono (by simp)).drew).trans HE.out.2⟩
theorem oM.same {K0 K K':KV} {l x y:Nat} {R:List Nat} {D:Nat->(Nat->Bool)->Bool} (h:oM K0 l x y R K D) (hA:K'.A=K.A) (vr:K'.vars=K.vars) (od:K'.order=K.order) (lv:K'.level=K.level) (hd:∀ r,K'.hold r=K.hold r) (tr:K'.trail=K.trail):oM K0 l x y R K' D:=by
 have low:∀ {r},xw K0 l x K r->xw K0 l x K' r:=fun {r} hr=>hr.mono fun p hp _=>by rw [hA];exact hp
 refine ⟨by rw [vr,h.vr],by rw [od,h.od],by rw [lv,h.lv],fun r=>by rw [hd,h.hd],by rw [tr,h.tr],by rw [hA,h.pl],h.rc,h.rn,by rw [hA];exact h.old,fun r hc hr=>?_,by rw [hA];exact h.nw,by rw [hA];exact h.sem,h.dold⟩;obtain ⟨p,hp,aH,hv,h1,h2,h3⟩:=h.cr r hc hr;exact ⟨p,by rw [hA];exact hp,aH,hv,low h1,low h2,h3⟩
structure St (K0:KV) (l x y:Nat) (N:List (Nat × Nat)) (R:List Nat) (K:KV) (T:List DM) (P:List Nat) (D:Nat->(Nat->Bool)->Bool) (M:List (Nat × Nat)):Prop where
 mid:oM K0 l x y R K D
 wf:K.Wf P
 ti:di T K R
 pos:K.Pos
 cnt:nR K0 K x N M
theorem KV.Wf.useA {K:KV} {P:List Nat} (h:K.Wf P) {r:Nat} (ht:K.A.tk r=true):(K.useA r).Wf (r::P):=by
 unfold KV.useA;split
 ·rename_i h2;exact h.useK h2 ht
 ·exact h.pend01 (by omega)
theorem KV.Pos.useA {K:KV} {P:List Nat} (h:K.Wf P) {r:Nat} (ht:K.A.tk r=true) (hp:∀ s,2<=s->K.A.tk s=true->s≠r->0<K.use s) (hr:2<=r->0<K.use r\/True):(K.useA r).Pos:=by
 intro s h2 hs
 rw [KV.useA_A] at hs;rw [KV.useA_use K r s (fun h3=>h.tu r h3 ht)]
 by_cases e:s=r
 ·subst e;rw [if_pos ⟨rfl,h2⟩];omega
 ·have:=hp s h2 hs e;omega
theorem St.get {K0 K K':KV} {l x y r:Nat} {q:Nat × Nat} {N Q M:List (Nat × Nat)} {R P:List Nat} {T T':List DM} {D:Nat->(Nat->Bool)->Bool} (h:St K0 l x y N R K T P D M) (nb:Nb K0 l x y) (F:lI K0 x Q N) (hq:q∈Q)
  (ha:Deep K0 l q.1) (hb:Deep K0 l q.2) (dL:K0.A.used+N.length<=K0.A.places) (G:BR K R x q.1 q.2 r K') (ti:di T' K' R) :
  ∃ D' M',St K0 l x y N R (K'.useA r) T' (r::P) D' M'/\xw K0 l x (K'.useA r) r/\(∀ z,D' r z=if z x then K0.den q.2 z else K0.den q.1 z)/\(∀ s,K.A.tk s=true->∀ z,D' s z=D s z) /\
   (∀ (s:Nat) (p:au),K.A.list[s]?=some p->p.taken=true->(K'.useA r).A.list[s]?=some p):=by
 obtain ⟨D',hm,xC,xQ,SL,KH⟩:=h.mid.get nb h.wf ha hb G;have ta:=h.mid.tk ha.1;have tb:=h.mid.tk hb.1;obtain ⟨hx,_⟩:=nb.facts
 have SN:x<K.vars:=by rw [h.mid.vr];exact hx
 have Qz:K'.Wf P:=by
  rcases G with ⟨_,_,rfl⟩ | ⟨_,_,rfl⟩ | ⟨_,Tk,_⟩
  ·exact h.wf
  ·exact h.wf
  ·exact Tk.wf h.wf ta tb ⟨by omega,by omega⟩
 have xR:∀ s,2<=s->K'.A.tk s=true->s≠r->0<K'.use s:=fun s h2 hs hne=>by
  rcases G with ⟨_,_,rfl⟩ | ⟨_,_,rfl⟩ | ⟨_,Tk,_⟩
  ·exact h.pos s h2 hs
  ·exact h.pos s h2 hs
  ·rw [Tk.fr.tk] at hs
   simp [hne] at hs
   have:=h.pos s h2 hs
   rw [Tk.us,if_neg hne];omega
 have SQ:∃ M',nR K0 K' x N M':=by
  rcases G with ⟨_,_,rfl⟩ | ⟨_,_,rfl⟩ | ⟨hne,Tk,bM⟩
  ·exact ⟨M,h.cnt⟩
  ·exact ⟨M,h.cnt⟩
  ·have hn3:¬ K.has3 x q.1 q.2:=fun ⟨s,p,h2,hp,aH,hv,e1,e2⟩=>bM s p (h.mid.has3_not nb hp (by rw [e1];exact ha) (by rw [e2];exact hb)) h2 hp aH ⟨hv,e1,e2⟩
   obtain ⟨h1,h2,_⟩:=h.cnt.room F h.mid nb ha hb hq hne hn3 dL;exact ⟨_,h.cnt.took Tk h1 h2⟩
 obtain ⟨M',SQ⟩:=SQ;have hA:=KV.useA_A K' r;refine ⟨D',M',⟨hm.same hA (KV.useA_vars _ _) (KV.useA_order _ _) (KV.useA_level _ _) (KV.useA_hold _ _) (KV.useA_trail _ _),Qz.useA xC.1,ti.same hA (KV.useA_vars _ _),KV.Pos.useA Qz xC.1 xR fun _=>.inr trivial,SQ.same (by rw [hA]) fun a b h3=>by unfold KV.has3 at *;rw [hA];exact h3⟩,xC.mono fun p hp _=>by rw [hA];exact hp,xQ,SL,fun s p hp aH=>by rw [hA];exact KH s p hp aH⟩
theorem St.turn {K0 K:KV} {l x y lo hi a00 a01 a10 a11 c:Nat} {p:au} {N Q M:List (Nat × Nat)} {R P:List Nat} {T:List DM} {DY:DM} {D:Nat->(Nat->Bool)->Bool} (h:St K0 l x y N (c::R) K T (hi::lo::P) D M) (nb:Nb K0 l x y) (F:lI K0 x Q N) (hQ:∀ q,q∈Q->Deep K0 l q.1/\Deep K0 l q.2)
  (F4:EK K0 l x y c p a00 a01 a10 a11) (pG:xw K0 l x K lo) (xy:xw K0 l x K hi) (dlo:∀ z,D lo z=if z x then K0.den a10 z else K0.den a00 z) (dhi:∀ z,D hi z=if z x then K0.den a11 z else K0.den a01 z)
  (qG:lo<=4294967295/\hi<=4294967295) (hD:T[y]?=some DY) :
  St K0 l x y N R (K.turnN c y lo hi) (T.set y (DY.put (nk y lo hi) (.lit (.int .u32 c)))) (p.lo::p.hi::P) D M:=by
 obtain ⟨_,hy,_⟩:=nb.facts;obtain ⟨hm,hne,hp⟩:=h.mid.turn nb F4 pG xy dlo dhi
 have SS:y<K.vars:=by rw [h.mid.vr];exact hy
 have xG:2<=c:=(h.mid.rc c (by simp)).1;have hcR:=(List.nodup_cons.1 h.mid.rn).1;have Qz:K.Wf (lo::hi::P):=h.wf.perm (List.Perm.swap _ _ _)
 have at_:=fun s=>jD (A:=K.A) (v:=(y:Int)) (lo:=lo) (hi:=hi) hp s
 refine ⟨hm,Qz.turnN xG hp F4.tk SS qG,h.ti.turnN h.wf hcR xG hp F4.tk SS qG hD fun s q h2 hq oq hs=>h.mid.turn_new nb F4 dlo dhi h2 hq oq hs,fun s h2 hs=>?_,h.cnt.turnN h.mid nb F hQ⟩
 have QA:K.A.tk s=true:=by
  have e:(K.A.setNode c (y:Int) lo hi).tk s=true:=hs;unfold ag.tk at e ⊢;rw [at_] at e
  by_cases e1:s=c
  ·subst e1;rw [hp];exact F4.tk
  ·rw [if_neg e1] at e;exact e
 exact h.pos s h2 QA
theorem kJ {α : Type} {C:List α} {i:Nat} {c:α} (h:C[i]?=some c):C.drop i=c::C.drop (i+1)/\C.take (i+1)=C.take i++[c]:=by
 obtain ⟨hl,e⟩:=List.getElem?_eq_some_iff.1 h;exact ⟨by rw [List.drop_eq_getElem_cons hl,e],by rw [List.take_add_one,h];rfl⟩
theorem lI.exists (K:KV) (x:Nat):∀ Q:List (Nat × Nat),∃ N,lI K x Q N:=by
 intro Q
 have key:∀ n,∃ N,lI K x (Q.take n) N:=by
  intro n
  induction n with
  | zero=>exact ⟨[],by simpa using lI.nil K x⟩
  | succ n ih =>
   obtain ⟨N,hN⟩:=ih;rw [List.take_add_one]
   cases hq:Q[n]? with
   | none=>exact ⟨N,by simpa using hN⟩
   | some q =>
    show ∃ N,lI K x (Q.take n++[q]) N
    by_cases h1:q.1=q.2
    ·exact ⟨N,hN.skip (.inl h1)⟩
    ·by_cases h2:K.has3 x q.1 q.2
     ·exact ⟨N,hN.skip (.inr (.inl h2))⟩
     ·by_cases h3:q∈N
      ·exact ⟨N,hN.skip (.inr (.inr h3))⟩
      ·exact ⟨_,hN.add h1 h2 h3⟩
 obtain ⟨N,hN⟩:=key Q.length;exact ⟨N,by simpa using hN⟩
theorem lI.len_eq {K:KV} {x:Nat} {Q N N':List (Nat × Nat)} (h:lI K x Q N) (h':lI K x Q N'):N.length=N'.length :=
 Nat.le_antisymm (List.Nodup.length_le_of_subset h.nd fun q hq=>(h'.iff q).2 ((h.iff q).1 hq)) (List.Nodup.length_le_of_subset h'.nd fun q hq=>(h.iff q).2 ((h'.iff q).1 hq))
structure zZ (K:KV) (l:Nat) (K':KV):Prop where
 vr:K'.vars=K.vars
 pl:K'.A.places=K.A.places
 od:K'.order=(K.order.set l (K.order.getD (l+1) 0)).set (l+1) (K.order.getD l 0)
 hd:∀ r,K'.hold r=K.hold r
 tr:K'.trail=K.trail
 den:∀ r,K.A.tk r=true->K'.A.tk r=true->∀ z,K'.den r z=K.den r z
 uq:∀ r s,K.A.tk r=true->K'.A.tk s=true->(∀ z,K.den r z=K'.den s z)->r=s
structure Aa (b l:Nat) (K:KV) (q:aA) (w:World) (e:Ending) (w':World):Prop where
  ex:∃ (C:List bV) (N:List (Nat × Nat)),gI K l (K.order.getD l 0) (K.order.getD (l + 1) 0) C∧lI K (K.order.getD l 0) (C.flatMap bV.qs) N ∧
    ((e=.returned (.bool false)∧K.A.places < K.A.used + N.length∧af [] w w') ∨
     (e=.returned (.bool true)∧K.A.used + N.length≤K.A.places∧∃ (K':KV) (T':List DM) (q':aA),zZ K l K'∧(C=[]→K'=K.swapK l)∧dH w' b K' T' q'∧af (q.all b) w w'∧Sub (q.all b) w (q'.all b)))
structure KI (l x y:Nat) (K:KV) (w:World) (e:Ending) (w':World):Prop where
 ex:∃ (C:List bV) (la:Option Addr) (lc:Nat),e=.returned (.slice la C.length lc)/\gI K l x y C/\(∀ c,c∈C->c.R32)/\w'.ownsRow w.heap.size 226 8 (.slice la C.length lc) C.length (jE x C)/\af [] w w'
theorem gI.len {K:KV} {l x y:Nat} {C:List bV} (h:gI K l x y C) (hk:K.Wf []):C.length<=1048576:=by
 have h1:(C.map bV.r).length<=(List.range 1048576).length:=List.Nodup.length_le_of_subset h.nd fun r hr=>by
  have ht:=Nb.cross_tk ((h.iff r).1 hr);have h2:=ag.tk_lt ht;have h3:=hk.ok.lp;have h4:=hk.ok.pm;exact List.mem_range.2 (by omega)
 simpa using h1
end Go.Proofs.YtdackeldhdchaaaGreat
