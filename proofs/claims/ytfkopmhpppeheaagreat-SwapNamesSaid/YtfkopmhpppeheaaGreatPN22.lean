import Derived.Test.YtfkopmhpppeheaaGreatPN21
import Derived.Test.YtfkopmhpppeheaaGreatPN19
import Derived.Test.YtfkopmhpppeheaaGreatPN3
import Derived.Test.YtfkopmhpppeheaaGreatPN4
import Derived.WideKeyEntry
set_option maxRecDepth 100000
set_option maxHeartbeats 3200000
namespace Go.Proofs.YtfkopmhpppeheaaGreat
open Go.RowKit Go.Maps Go.ChangeMaps Go.WideShapes
def bY.flat (x:Nat) (c:bY):List Value:=[.int .u32 c.r,.int .i64 x,.int .u32 c.lo,.int .u32 c.hi,.int .u32 c.a00,.int .u32 c.a01,.int .u32 c.a10,.int .u32 c.a11]
def nS (x:Nat) (C:List bY):List Value:=C.flatMap (bY.flat x)
theorem qg (x:Nat):∀ (C:List bY) (i:Nat) (c:bY),C[i]?=some c->∀ k,k<8->(nS x C)[i*8+k]?=(c.flat x)[k]?
 | [],i,c,h,_,_=>by simp at h
 | d::C,0,c,h,k,hk=>by
  simp at h;subst h
  show ((d.flat x)++nS x C)[0*8+k]?=_
  rw [List.getElem?_append_left (by simp [bY.flat];omega)]
  congr 1;omega
 | d::C,i+1,c,h,k,hk=>by
  have ih:=qg x C i c (by simpa using h) k hk
  show ((d.flat x)++nS x C)[(i+1)*8+k]?=_
  rw [List.getElem?_append_right (by simp [bY.flat];omega),<- ih]
  congr 1;simp [bY.flat];omega
def bY.R32 (c:bY):Prop:=c.r<=4294967295/\c.lo<=4294967295/\c.hi<=4294967295/\c.a00<=4294967295/\c.a01<=4294967295/\c.a10<=4294967295/\c.a11<=4294967295
theorem NH {W:World} {mb:Nat} (h:W.heap[mb]?=some (.map #[] 0)):W.ownsMap Tryz.prog 116 (plainElem (H:=Unit) Tryz.prog 3) mb 0 (.map []):=by
 obtain ⟨es,clock,q1,q2,q3,q4⟩:=World.ownsMap_made W Tryz.prog 116 (plainElem (H:=Unit) Tryz.prog 3);rw [heap_alloc_new] at q1;cases q1;exact ⟨#[],0,h,q2,Nat.zero_le _,rfl⟩
structure kX (x:Nat) (N:List (Nat × Nat)) (D:DM):Prop where
 im:IsMap D
 has:∀ k,Maps.has D k=true↔∃ q,q∈N/\k=nk x q.1 q.2
 sz:Maps.size D=N.length
 ub:∀ q,q∈N->q.1<=4294967295/\q.2<=4294967295
theorem kX.nil (x:Nat):kX x [] (.map []):=⟨isMap_empty,fun k=>by simp [Maps.has],rfl,by simp⟩
theorem kX.mem {x:Nat} {N:List (Nat × Nat)} {D:DM} (h:kX x N D) (hx:x<=64) {a d:Nat} (ha:a<=4294967295) (hd:d<=4294967295):Maps.has D (nk x a d)=true↔(a,d)∈N:=by
 rw [h.has];constructor
 ·rintro ⟨q,hq,e⟩
  have hu:=h.ub q hq;obtain ⟨_,e1,e2⟩:=tY (vw (by omega) (by omega)) (jw ha) (jw hd) (vw (by omega) (by omega)) (jw hu.1) (jw hu.2) e;have:q=(a,d):=Prod.ext e1.symm e2.symm
  rw [<- this];exact hq
 ·intro hq;exact ⟨(a,d),hq,rfl⟩
theorem kX.again {x:Nat} {N:List (Nat × Nat)} {D:DM} (h:kX x N D) (hx:x<=64) (ht:Tidy D) {a d:Nat} (ha:a<=4294967295) (hd:d<=4294967295) (hm:(a,d)∈N) (v:DataW Unit):kX x N (D.put (nk x a d) v):=by
 refine ⟨h.im.put _ _,fun k=>?_,?_,h.ub⟩
 ·by_cases e:k=nk x a d
  ·subst e
   rw [has_put_same h.im (lV _ _ _)];exact ⟨fun _=>⟨(a,d),hm,rfl⟩,fun _=>rfl⟩
  ·rw [has_put_other e];exact h.has k
 ·rw [size_put ht,if_pos ((h.mem hx ha hd).2 hm)];exact h.sz
theorem kX.new {x:Nat} {N:List (Nat × Nat)} {D:DM} (h:kX x N D) (hx:x<=64) (ht:Tidy D) {a d:Nat} (ha:a<=4294967295) (hd:d<=4294967295) (hm:(a,d)∉N) (v:DataW Unit):kX x (N++[(a,d)]) (D.put (nk x a d) v):=by
 refine ⟨h.im.put _ _,fun k=>?_,?_,fun q hq=>?_⟩
 ·by_cases e:k=nk x a d
  ·subst e
   rw [has_put_same h.im (lV _ _ _)];exact ⟨fun _=>⟨(a,d),by simp,rfl⟩,fun _=>rfl⟩
  ·rw [has_put_other e,h.has]
   constructor
   ·rintro ⟨q,hq,rfl⟩;exact ⟨q,by simp [hq],rfl⟩
   ·rintro ⟨q,hq,rfl⟩
    rcases List.mem_append.1 hq with hq | hq
    ·exact ⟨q,hq,rfl⟩
    ·simp at hq;subst hq;exact absurd rfl e
 ·have bK:Maps.has D (nk x a d)≠true:=fun e=>hm ((h.mem hx ha hd).1 e)
  rw [size_put ht,if_neg bK,h.sz];simp
 ·rcases List.mem_append.1 hq with hq | hq
  ·exact h.ub q hq
  ·simp at hq;subst hq;exact ⟨ha,hd⟩
structure Vl (x:Nat) (K:KV) (C:List bY) (w:World) (e:Ending) (w':World):Prop where
 ex:∃ N:List (Nat × Nat),e=.returned (.int .i64 N.length)/\lZ K x (C.flatMap bY.qs) N/\af [] w w'
structure iW (w:World) (x mb:Nat) (K:KV) (Q:List (Nat × Nat)) (wr:World):Prop where
 ex:∃ (N:List (Nat × Nat)) (D:DM),lZ K x Q N/\kX x N D/\wr.ownsMap Tryz.prog 116 (plainElem (H:=Unit) Tryz.prog 3) mb (Maps.size D) D
 up:af [] w wr
theorem iW.keep {w wr w2:World} {x mb:Nat} {K:KV} {Q:List (Nat × Nat)} (h:iW w x mb K Q wr) (u:af [] wr w2):iW w x mb K Q w2:=by
 obtain ⟨N,D,h1,h2,h3⟩:=h.ex;exact ⟨⟨N,D,h1,h2,aV h3 (u.block _ h3.lt (by simp))⟩,h.up.trans u⟩
theorem iW.skip {w wr:World} {x mb:Nat} {K:KV} {Q:List (Nat × Nat)} {q:Nat × Nat} (h:iW w x mb K Q wr) (hq:q.1=q.2\/K.nR x q.1 q.2):iW w x mb K (Q++[q]) wr:=by
 obtain ⟨N,D,h1,h2,h3⟩:=h.ex;exact ⟨⟨N,D,h1.skip (hq.imp id .inl),h2,h3⟩,h.up⟩
theorem Dj (w:World):(zeroValue 3).run Tryz.prog w=.ok (.int .i64 0) w:=by kernel_rfl
theorem YK:WideMaps.KeyLaw Tryz.prog 116:=deep_law_gate laidOut (of_decide_eq_true (by kernel_rfl)) (of_decide_eq_true (by kernel_rfl)) (by kernel_rfl) (by kernel_rfl)
theorem ui {W:World} {b:Nat} {es YL:Array MapEntry} {clock qQ:Nat} (hb:W.heap[b]?=some (.map es clock)):af [b] W (setBlock W b (.map YL qQ)):=gG ⟨es,clock,YL,qQ,hb,rfl⟩
open Go.MapKept in
theorem Vm {W:World} {mb n:Nat} {D:DM} {key:Value} {kl:Lit} (h:W.ownsMap Tryz.prog 116 (plainElem (H:=Unit) Tryz.prog 3) mb n D) (hn:n<maxLen) (iV:keyOf Tryz.prog 116 key=some kl) :
  ∃ (c0:Int) (st:Value) (W1:World),(Instr.lookup 291 (.map (some mb)) key false).run Tryz.prog W=.ok (.int .i64 c0) W/\(Instr.lookup 291 (.map (some mb)) key false).run Tryz.prog W1=.ok (.int .i64 c0) W1 /\
   (Instr.mapEntry 291 (.map (some mb)) key).run Tryz.prog W=.ok (.tuple #[.int .i64 c0,st]) W1/\af [mb] W W1 /\
   ∀ c:Int,(Lit.int .i64 c).wf=true->∃ W2,(Instr.entryStore 291 (.map (some mb)) st (.int .i64 c)).run Tryz.prog W1=.ok () W2/\W2.ownsMap Tryz.prog 116 (plainElem (H:=Unit) Tryz.prog 3) mb (n+1) (D.put kl (.lit (.int .i64 c)))/\af [mb] W W2:=by
 obtain ⟨c0,gW,bI,SA⟩:=h.lookup_int aT Tryz.underlying291 Tryz.underlying3 (Dj _) iV;have h':=h;obtain ⟨es,clock,hb,F,hs,hDD⟩:=h
 have hz:=fun u:World=>Dj u
 obtain ⟨v0,st,YL,qQ,hE,_,hS⟩:=WideElems.entry_then_store YK Tryz.underlying291 hz hb F iV;have Ag:(setBlock W mb (.map YL qQ)).heap[mb]?=some (.map YL qQ):=heap_setBlock_same hb _
 have afJ:v0=.int .i64 c0/\(Instr.lookup 291 (.map (some mb)) key false).run Tryz.prog (setBlock W mb (.map YL qQ))=.ok (.int .i64 c0) (setBlock W mb (.map YL qQ)):=by
  rcases aT.find W iV es.toList F.keys with ⟨h1,h2⟩ | ⟨j,e0,h1,h2,h3⟩
  ·have hl:(Instr.lookup 291 (.map (some mb)) key false).run Tryz.prog W=.ok (.int .i64 0) W:=by
    simp [Instr.lookup,run_underlying Tryz.underlying291,MapKept.run_getObj_map hb,aT.check W _ iV,h1,hz,Result.andThen]
   have Jc:c0=0:=by
    rw [gW] at hl
    simpa using hl
   have he:(Instr.mapEntry 291 (.map (some mb)) key).run Tryz.prog W=.ok (.tuple #[.int .i64 0,goInt clock]) (setBlock W mb (.map (es.push ⟨key,.int .i64 0,clock⟩) (clock+1))):=by
    simp [Instr.mapEntry,run_underlying Tryz.underlying291,MapKept.run_getObj_map hb,aT.check W false iV,h1,hz,MapKept.run_setObj_map _ hb,Result.andThen,setBlock]
   have hup:(Instr.mapUpdate 291 (.map (some mb)) key (.int .i64 0)).run Tryz.prog W=.ok () (setBlock W mb (.map (es.push ⟨key,.int .i64 0,clock⟩) (clock+1))):=by
    simp [Instr.mapUpdate,run_underlying Tryz.underlying291,MapKept.run_getObj_map hb,aT.check W false iV,h1,MapKept.run_setObj_map _ hb,Result.andThen,setBlock]
   rw [hE] at he
   simp only [Result.ok.injEq,Value.tuple.injEq] at he
   obtain ⟨e1,e2⟩:=he
   have e3:v0=.int .i64 0:=by have:=congrArg (fun a:Array Value=>a[0]?) e1;simpa using this
   refine ⟨by rw [e3,Jc],?_⟩;obtain ⟨w9,zM,aK,_⟩:=h'.store aT Tryz.underlying291 hn iV (plainElem_int (H:=Unit) Tryz.underlying3 (vw (n:=0) (by omega) (by omega)));rw [hup] at zM
   simp only [Result.ok.injEq,true_and] at zM
   rw [e2,Jc,zM];obtain ⟨es9,akG,Xv,F9,_,_⟩:=aK
   have Vo:w9.heap[mb]?=some (.map (es.push ⟨key,.int .i64 0,clock⟩) (clock+1)):=by rw [<- zM];exact heap_setBlock_same hb _
   rw [Vo] at Xv
   simp only [Option.some.injEq,Obj.map.injEq] at Xv
   obtain ⟨rfl,rfl⟩:=Xv
   rcases Maps.fit_look false aT Tryz.underlying291 (Dj w9) Vo F9 iV with ⟨hr,_,_⟩ | ⟨x,y,hm,hk,hr,_⟩
   ·simpa using hr
   ·simp only [Array.toList_push,List.mem_append,List.mem_singleton] at hm
    rcases hm with hm | rfl
    ·exact absurd hk (h2 x hm)
    ·simpa using hr
  ·have hj:es[j]?=some e0:=by simpa using h2
   have hl:(Instr.lookup 291 (.map (some mb)) key false).run Tryz.prog W=.ok e0.val W:=by
    simp [Instr.lookup,run_underlying Tryz.underlying291,MapKept.run_getObj_map hb,aT.check W _ iV,h1,Result.andThen]
   have Dk:es.modify j (fun e=>{ e with key:=key })=es:=by
    apply Array.ext'
    rw [Array.toList_modify,modify_eq_set _ _ _ _ h2]
    have:({ e0 with key:=key }:MapEntry)=e0:=by rw [<- h3]
    rw [this];exact WideElems.set_self _ _ _ h2
   have he:(Instr.mapEntry 291 (.map (some mb)) key).run Tryz.prog W=.ok (.tuple #[e0.val,goInt e0.born]) (setBlock W mb (.map es clock)):=by
    simp [Instr.mapEntry,run_underlying Tryz.underlying291,MapKept.run_getObj_map hb,aT.check W false iV,h1,hj,h3,aT.stays W iV,Dk,MapKept.run_setObj_map _ hb,Result.andThen,setBlock]
   have afK:setBlock W mb (.map es clock)=W:=by
    have aW:=ah hb
    have:W.heap.setIfInBounds mb (.map es clock)=W.heap:=by
     apply Array.ext_getElem?
     intro k
     by_cases e:mb=k
     ·subst e;rw [Array.getElem?_setIfInBounds_self_of_lt aW,hb]
     ·rw [Array.getElem?_setIfInBounds_ne e]
    unfold setBlock;rw [this]
   rw [hE] at he
   simp only [Result.ok.injEq,Value.tuple.injEq] at he
   obtain ⟨e1,e2⟩:=he
   have e3:v0=e0.val:=by have:=congrArg (fun a:Array Value=>a[0]?) e1;simpa using this
   rw [gW] at hl
   simp only [Result.ok.injEq,and_true] at hl
   refine ⟨by rw [e3,hl],?_⟩
   rw [e2,afK];exact gW
 refine ⟨c0,goInt st,setBlock W mb (.map YL qQ),gW,afJ.2,by rw [<- afJ.1];exact hE,ui hb,fun c hc=>?_⟩;obtain ⟨es2,akH,YM,ZX⟩:=hS (setBlock W mb (.map YL qQ)) (.int .i64 c) Ag;obtain ⟨w9,zM,aK,_⟩:=h'.store aT Tryz.underlying291 hn iV (plainElem_int (H:=Unit) Tryz.underlying3 hc);rw [ZX] at zM
 simp only [Result.ok.injEq,true_and] at zM
 refine ⟨_,YM,aV aK ?_,(ui hb).trans (ui Ag)⟩;rw [<- zM,heap_setBlock_same Ag _,heap_setBlock_same hb _]
theorem iW.put {w wr w9:World} {x mb a d:Nat} {K:KV} {Q N:List (Nat × Nat)} {D:DM} {v:DataW Unit} (hu:af [] w wr) (h1:lZ K x Q N) (h2:kX x N D) (hx:x<=64) (ht:Tidy D) (ha:a<=4294967295) (hd:d<=4294967295) (hne:a≠d) (bK:¬ K.nR x a d)
  (hmb:w.heap.size<=mb) (aK:w9.ownsMap Tryz.prog 116 (plainElem (H:=Unit) Tryz.prog 3) mb (Maps.size (D.put (nk x a d) v)) (D.put (nk x a d) v)) (h9:af [mb] wr w9):iW w x mb K (Q++[(a,d)]) w9:=by
 have NI:af [] w w9:=hu.then h9 fun k hk=>.inr (by simp at hk;omega)
 by_cases hm:(a,d)∈N
 ·exact ⟨⟨N,_,h1.skip (.inr (.inr hm)),h2.again hx ht ha hd hm v,aK⟩,NI⟩
 ·exact ⟨⟨_,_,h1.add hne bK hm,h2.new hx ht ha hd hm v,aK⟩,NI⟩
theorem NJ (b x:Nat) (K:KV) (T:List DM) (q:aA) (C:List bY) (la:Option Addr) (lc base:Nat) (w:World) (h:bV w b K T q) (hx:x<K.vars) (hC:∀ c,c∈C->c.R32) (hl:C.length<=1048576)
  (hr:w.ownsRow base 240 8 (.slice la C.length lc) C.length (nS x C)) :
  Calls Tryz.prog 159 #[.pointer (some ⟨b,0,none⟩),.int .i64 x,.slice la C.length lc] w fun e w'=>Vl x K C w e w':=by
 have OI:=@run_makeMap Tryz.prog;have zx:=h.ok.wf.vs;have hlen:=h.ti.len;have hD:T[x]?=some (T[x]'(by omega)):=List.getElem?_eq_getElem (by omega);generalize T[x]'(by omega)=DX at hD;have Et:Hid (iW w x w.heap.size K [] (w.alloc (.map #[] 0))):=⟨⟨[],.map [],lZ.nil K x,kX.nil x,NH (heap_alloc_new w _)⟩,(af.refl [] w).alloc _⟩
 have HK:Hid (∀ y:World,af [] w y->bV y b K T q):=fun y u=>h.upd u (by simp)
 have HR:Hid (∀ y:World,af [] w y->y.ownsRow base 240 8 (.slice la C.length lc) C.length (nS x C)):=fun y u=>ai hr fun k hk=>u.block k (hr.lt k hk).2 (by simp)
 have HC:=Lib.hid hC;have HD:=Lib.hid hD;have HW:=Lib.hid (And.intro h.ok.wf h.ti)
 have hkb:Hid (∀ y:World,af [] w y->y.cell? ⟨b,1,none⟩=some (.pointer (some ⟨q.t,0,none⟩))):=fun y u=>u.fQ (ae h.mem.blk rfl)
 clear h hr hC hD hlen
 go_enter Tryz.func159,Tryz.ntmps159
 go_wp2_with fail
 go_loopg [17] C.length (fun gg s17 wr=>∃ i:Nat,C.length-i=gg/\i<=C.length/\s17=.int .i64 i/\iW w x w.heap.size K ((C.take i).flatMap bY.qs) wr)
 case atStart=>exact ⟨0,by omega,by omega,rfl,by simpa using Et.out⟩
 case round =>
  obtain ⟨i,rfl,hi,rfl,hF⟩:=hrel
  by_cases aW:i<C.length
  ·obtain ⟨c,hc⟩ : ∃ c,C[i]?=some c:=⟨_,List.getElem?_eq_getElem aW⟩
   have aC:=HR.out wr hF.up;obtain ⟨gl,rfl⟩:=bC aC (by omega);have hg:=qg x C i c hc;have c0:=au aC (j:=i*8+0) (u:=.int .u32 c.r) (by rw [hg 0 (by omega)];rfl);have c1:=au aC (j:=i*8+1) (u:=.int .i64 x) (by rw [hg 1 (by omega)];rfl);have c2:=au aC (j:=i*8+2) (u:=.int .u32 c.lo) (by rw [hg 2 (by omega)];rfl);have c3:=au aC (j:=i*8+3) (u:=.int .u32 c.hi) (by rw [hg 3 (by omega)];rfl);have c4:=au aC (j:=i*8+4) (u:=.int .u32 c.a00) (by rw [hg 4 (by omega)];rfl);have c5:=au aC (j:=i*8+5) (u:=.int .u32 c.a01) (by rw [hg 5 (by omega)];rfl);have c6:=au aC (j:=i*8+6) (u:=.int .u32 c.a10) (by rw [hg 6 (by omega)];rfl);have c7:=au aC (j:=i*8+7) (u:=.int .u32 c.a11) (by rw [hg 7 (by omega)];rfl);rw [Nat.add_zero] at c0
   have fF:(i:Int)<(C.length:Int):=by omega
   have afL:=HC.out c (List.mem_of_getElem? hc);have HCI:=Lib.hid (And.intro hc afL);have HF:=Lib.hid hF;have aY:=heap_alloc_new wr (.cells #[.int .u32 c.r,.int .i64 x,.int .u32 c.lo,.int .u32 c.hi,.int .u32 c.a00,.int .u32 c.a01,.int .u32 c.a10,.int .u32 c.a11] 240 (0,0));have z0:=ae (j:=0) aY rfl;have z4:=ae (j:=4) aY rfl;have z5:=ae (j:=5) aY rfl;have z6:=ae (j:=6) aY rfl;have z7:=ae (j:=7) aY rfl;clear hF aC hg hc aY afL;go_wp2_with fail;obtain ⟨wI,hwI⟩ : ∃ wI,((wr.alloc (.cells #[.int .u32 c.r,.int .i64 x,.int .u32 c.lo,.int .u32 c.hi,.int .u32 c.a00,.int .u32 c.a01,.int .u32 c.a10,.int .u32 c.a11] 240 (0,0))).alloc (.cells #[.int .i64 x,.int .u32 c.a00,.int .u32 c.a10,.int .i64 x,.int .u32 c.a01,.int .u32 c.a11] 116 (0,0)))=wI:=⟨_,rfl⟩
   have hB:wI.heap[wr.heap.size+1]?=some (.cells #[.int .i64 x,.int .u32 c.a00,.int .u32 c.a10,.int .i64 x,.int .u32 c.a01,.int .u32 c.a11] 116 (0,0)):=by
    have h:=heap_alloc_new (wr.alloc (.cells #[.int .u32 c.r,.int .i64 x,.int .u32 c.lo,.int .u32 c.hi,.int .u32 c.a00,.int .u32 c.a01,.int .u32 c.a10,.int .u32 c.a11] 240 (0,0))) (.cells #[.int .i64 x,.int .u32 c.a00,.int .u32 c.a10,.int .i64 x,.int .u32 c.a01,.int .u32 c.a11] 116 (0,0));rw [World.size_alloc] at h
    rw [<- hwI];exact h
   have hFI:iW w x w.heap.size K ((C.take i).flatMap bY.qs) wI:=HF.out.keep (by rw [<- hwI];exact ((af.refl [] wr).alloc _).alloc _)
   have hBn:w.heap.size≠wr.heap.size+1:=by have:=HF.out.up.size;omega
   rw [hwI];generalize wr.heap.size+1=B at *;generalize wr.heap.size=B9 at *;have HI:=Lib.hid (And.intro hFI hB);clear hwI hB hFI z0 z4 z5 z6 z7 c0 c1 c2 c3 c4 c5 c6 c7 HF
   go_loopg [35] 2 (fun gg s35 wy=>∃ j:Nat,2-j=gg/\j<=2/\s35=.int .i64 j/\iW w x w.heap.size K ((C.take i).flatMap bY.qs++c.qs.take j) wy/\wy.heap[B]?=some (.cells #[.int .i64 x,.int .u32 c.a00,.int .u32 c.a10,.int .i64 x,.int .u32 c.a01,.int .u32 c.a11] 116 (0,0)))
   case atStart=>exact ⟨0,by omega,by omega,rfl,by simpa using HI.out.1,HI.out.2⟩
   case round =>
    obtain ⟨j,rfl,hj,rfl,hF,hB⟩:=hrel
    by_cases hjt:j<2
    ·have Lc:(j:Int)<2:=by omega
     have hq0:∃ a d:Nat,c.qs[j]?=some (a,d)/\(a<=4294967295/\d<=4294967295)/\wr.cell? ⟨B,j*3,none⟩=some (.int .i64 x)/\wr.cell? ⟨B,j*3+1,none⟩=some (.int .u32 a)/\wr.cell? ⟨B,j*3+2,none⟩=some (.int .u32 d):=by
      obtain ⟨_,_,_,e1,e2,e3,e4⟩:=HCI.out.2
      match j,hjt with
      | 0,_=>exact ⟨c.a00,c.a10,rfl,⟨e1,e3⟩,ae hB rfl,ae hB rfl,ae hB rfl⟩
      | 1,_=>exact ⟨c.a01,c.a11,rfl,⟨e2,e4⟩,ae hB rfl,ae hB rfl,ae hB rfl⟩
     obtain ⟨a,d,hqj,⟨ha,hd⟩,y0,y1,y2⟩:=hq0
     have kC:c.qs.take (j+1)=c.qs.take j++[(a,d)]:=by rw [List.take_add_one,hqj];rfl
     have iq:af [] wr (wr.alloc (.cells #[.int .i64 x,.int .u32 a,.int .u32 d] 116 (0,0))):=(af.refl [] wr).alloc _;have aY:=heap_alloc_new wr (.cells #[.int .i64 x,.int .u32 a,.int .u32 d] 116 (0,0))
     have HX:Hid (∀ z:World,af [] (wr.alloc (.cells #[.int .i64 x,.int .u32 a,.int .u32 d] 116 (0,0))) z->z.cell? ⟨b,1,none⟩=some (.pointer (some ⟨q.t,0,none⟩))/\z.cell? ⟨wr.heap.size,0,none⟩=some (.int .i64 x)/\z.cell? ⟨wr.heap.size,1,none⟩=some (.int .u32 a)/\z.cell? ⟨wr.heap.size,2,none⟩=some (.int .u32 d)):=fun z u =>
      ⟨hkb.out z (hF.up.trans (iq.trans u)),u.fQ (ae (j:=0) aY rfl),u.fQ (ae (j:=1) aY rfl),u.fQ (ae (j:=2) aY rfl)⟩
     have HTA:Hid (∀ z:World,af [] (wr.alloc (.cells #[.int .i64 x,.int .u32 a,.int .u32 d] 116 (0,0))) z->ed z q.t T q.FT):=fun z u=>(HK.out z (hF.up.trans (iq.trans u))).mem.tab
     have Vp:=Lib.hid (And.intro hF (And.intro hB iq));have LG:=Lib.hid kC;obtain ⟨x0,x1,x2,x3⟩:=HX.out _ (af.refl _ _);clear hF hB hqj kC iq aY;go_wp2_with fail
     go_region_held3 (fun z=>z.cell? ⟨b,1,none⟩=some (.pointer (some ⟨q.t,0,none⟩))/\z.cell? ⟨wr.heap.size,0,none⟩=some (.int .i64 x)/\z.cell? ⟨wr.heap.size,1,none⟩=some (.int .u32 a)/\z.cell? ⟨wr.heap.size,2,none⟩=some (.int .u32 d)) (exact HX.out _ (by first | exact eF.out | exact (af.refl [] _).drew | exact af.refl _ _)) (first | (go_at_call 218;refine (find_spec q.t q.FT x a d T DX _ (HTA.out _ (by first | exact (af.refl [] _).drew | exact af.refl _ _)) HD.out ha hd).mono ?_;rintro e w2 ⟨c9,rfl,hc,hu⟩;have HL:=Lib.hid (HW.out.2.aaA HW.out.1 hx HD.out ha hd hc);have eF:Hid (af [] (wr.alloc (.cells #[.int .i64 x,.int .u32 a,.int .u32 d] 116 (0,0))) w2):=(by first | exact hu | exact (af.refl [] _).drew.trans hu);clear hc hu))
     have HFW:=Lib.hid (And.intro (Vp.out.1.keep (Vp.out.2.2.trans eF.out)) (((Vp.out.2.2.trans eF.out).block B (ah Vp.out.2.1) (by simp)).trans Vp.out.2.1));clear x0 x1 x2 x3;obtain ⟨x0,x1,x2,x3⟩:=HX.out w2 eF.out
     cases zJ:Maps.has DX (nk x a d) with
     | true =>
      rw [zJ] at HL
      have HS:Hid (iW w x w.heap.size K ((C.take i).flatMap bY.qs++c.qs.take j++[(a,d)]) w2):=HFW.out.1.skip (.inr (by
       rcases HL.out with ⟨_,r,_,_,r2,p,hp⟩ | ⟨hf,_⟩
       ·exact ⟨r,p,r2,hp⟩
       ·cases hf))
      clear HL zJ;go_wp2_with fail
      go_roundg (2-(j+1))
      case measure=>omega
      case rel=>exact ⟨j+1,rfl,by omega,by simp,by rw [LG.out,<- List.append_assoc];exact HS.out,HFW.out.2⟩
     | false =>
      rw [zJ] at HL
      have FP:Hid (¬ K.nR x a d):=fun ⟨r,p,r2,hp,aH,e⟩=>by
       rcases HL.out with ⟨hf,_⟩ | ⟨_,_,bK⟩
       ·cases hf
       ·exact bK r p (by simp) r2 hp aH e
      clear HL zJ
      by_cases Yj:a=d
      ·have HS:Hid (iW w x w.heap.size K ((C.take i).flatMap bY.qs++c.qs.take j++[(a,d)]) w2):=HFW.out.1.skip (.inl Yj)
       subst Yj;go_wp2_with fail
       go_roundg (2-(j+1))
       case measure=>omega
       case rel=>exact ⟨j+1,rfl,by omega,by simp,by rw [LG.out,<- List.append_assoc];exact HS.out,HFW.out.2⟩
      ·have AY:((a:Int) == (d:Int))=false:=by simp;omega
       have wP:¬ ((a:Int)=(d:Int)):=by omega
       have U0:decide ((a:Int)=(d:Int))=false:=decide_eq_false wP;obtain ⟨N,D,h1,h2,h3⟩:=HFW.out.1.ex;have iV:=zK (v:=(x:Int)) (lo:=a) (hi:=d) (vw (by omega) (by omega)) (jw ha) (jw hd);have Xv:=h3.lt
       have dG:Maps.size D<maxLen:=by
        rw [h2.sz]
        have:N.length<=((C.take i).flatMap bY.qs++c.qs.take j).length:=List.Nodup.length_le_of_subset h1.nd fun p hp=>((h1.iff p).1 hp).1
        have e1:∀ l:List bY,(l.flatMap bY.qs).length=l.length*2:=fun l=>by
         induction l with
         | nil=>rfl
         | cons e l ih=>rw [List.flatMap_cons,List.length_append,ih,List.length_cons];simp [bY.qs];omega
        rw [List.length_append,e1,List.length_take,List.length_take] at this;unfold maxLen;omega
       obtain ⟨c0,st,W1,gW,aaC,aot,iq,aaD⟩:=Vm (aV (w':=w2.drew) h3 rfl) dG iV;obtain ⟨w9,JF,aK,NI⟩:=aaD _ (wrap64_wf (c0+1))
       have arK:w.heap.size<wr.heap.size:=by obtain ⟨_,_,_,_,h⟩:=Vp.out.1.ex;exact h.lt
       have hm1:∀ {k:Nat} {v:Value},w2.cell? ⟨wr.heap.size,k,none⟩=some v->W1.cell? ⟨wr.heap.size,k,none⟩=some v:=fun {k v} hc=>((af.jf iq).cell (World.block_lt_of_cell? _ _ hc) (by simp;omega)).trans hc
       have v1:=hm1 x1;have v2:=hm1 x2;have v3:=hm1 x3
       have HS:Hid (iW w x w.heap.size K ((C.take i).flatMap bY.qs++c.qs.take j++[(a,d)]) w9/\w9.heap[B]?=some (.cells #[.int .i64 x,.int .u32 c.a00,.int .u32 c.a10,.int .i64 x,.int .u32 c.a01,.int .u32 c.a11] 116 (0,0))) :=
        ⟨iW.put HFW.out.1.up h1 h2 (by omega) (h3.tidy aT) ha hd Yj FP.out (Nat.le_refl _) (dZ aK) (af.jf NI),((af.jf NI).block B (ah HFW.out.2) (by simp;omega)).trans HFW.out.2⟩
       clear h1 h2 h3 aK iq aaD NI dG iV Yj Xv hm1;go_wp2_with fail
       go_region
       go_wp2_with fail
       go_roundg (2-(j+1))
       case measure=>omega
       case rel=>exact ⟨j+1,rfl,by omega,by simp,by rw [LG.out,<- List.append_assoc];exact HS.out.1,HS.out.2⟩
    ·obtain rfl:j=2:=by omega
     have Lc:¬ ((2:Nat):Int)<2:=by omega
     have HE:Hid (iW w x w.heap.size K ((C.take (i+1)).flatMap bY.qs) wr):=by
      show iW w x w.heap.size K ((C.take (i+1)).flatMap bY.qs) wr
      rw [List.take_add_one,HCI.out.1,List.flatMap_append]
      simpa [bY.qs] using hF
     clear hF hB;go_wp2_with fail
     go_roundg (C.length-(i+1))
     case measure=>omega
     case rel=>exact ⟨i+1,rfl,by omega,by simp,HE.out⟩
  ·obtain rfl:i=C.length:=by omega
   have fF:¬ ((C.length:Int)<(C.length:Int)):=by omega
   rw [List.take_length] at hF;obtain ⟨N,D,h1,h2,h3⟩:=hF.ex;have HE:Hid (Vl x K C w (.returned (.int .i64 (Maps.size D:Nat))) wr):=⟨N,by rw [h2.sz],h1,hF.up⟩
   have hln:=fun ty=>h3.len Tryz.underlying291 ty
   clear hF h1 h2 h3;go_wp2_with fail;go_ret;exact HE.out
end Go.Proofs.YtfkopmhpppeheaaGreat
namespace Go.Proofs.YtfkopmhpppeheaaGreat
open Go.RowKit Go.Maps Go.ChangeMaps Go.WideShapes
theorem Dl {α : Type}:∀ (l:List α) (j:Nat) (a:α),l[j]?=some a->l.set j a=l
 | [],_,_,h=>by simp at h
 | b::r,0,a,h=>by simp at h;subst h;rfl
 | b::r,j+1,a,h=>by simp at h;simp [Dl r j a h]
theorem QV {L:List ak} {r:Nat} {p:ak} (hp:L[r]?=some p) (v:Int) (lo hi:Nat) :
  aU (L.set r { p with var:=v,lo:=lo,hi:=hi })=(((aU L).set (r*5) (.int .i64 v)).set (r*5+1) (.int .u32 lo)).set (r*5+2) (.int .u32 hi):=by
 have h3:(aU L)[r*5+3]?=some (.bool p.taken):=by rw [eG _ _ _ (by omega),hp];rfl
 have h4:(aU L)[r*5+4]?=some (.int .u8 p.count):=by rw [eG _ _ _ (by omega),hp];rfl
 rw [Jh]
 show ((((((aU L).set (r*5) (.int .i64 v)).set (r*5+1) (.int .u32 lo)).set (r*5+2) (.int .u32 hi)).set (r*5+3) (.bool p.taken)).set (r*5+4) (.int .u8 p.count))=_
 rw [Dl _ (r*5+3),Dl _ (r*5+4)]
 ·rw [List.getElem?_set_ne (by omega),List.getElem?_set_ne (by omega),List.getElem?_set_ne (by omega)];exact h4
 ·rw [List.getElem?_set_ne (by omega),List.getElem?_set_ne (by omega),List.getElem?_set_ne (by omega)];exact h3
theorem Vq {w:World} {b l lc r lo hi:Nat} {v:Int} {F:List Nat} {fv:Value} {A:ag} {p:ak} (dJ:A.Ok) (h2:2<=r) (hp:A.list[r]?=some p) (rY:lo<=4294967295/\hi<=4294967295)
  (h5:w.heap[b]?=some (.cells #[.int .i64 A.places,.slice (some ⟨l,0,none⟩) A.list.length lc,fv,.int .i64 A.used] 249 (0,0)))
  (h6:w.ownsRow 0 286 5 (.slice (some ⟨l,0,none⟩) A.list.length lc) A.list.length (aU A.list)) (h7:w.ownsRow 0 77 1 fv A.free.length (aI A.free))
  (hF:F=[b,l]++fv.ownBlock.toList) (mO:b≠l) (Bc:some b≠fv.ownBlock) (uS:some l≠fv.ownBlock) :
  bu (((w.setCell ⟨l,r*5,none⟩ (.int .i64 v)).setCell ⟨l,r*5+1,none⟩ (.int .u32 lo)).setCell ⟨l,r*5+2,none⟩ (.int .u32 hi)) b (A.setNode r v lo hi) F /\
   af F w (((w.setCell ⟨l,r*5,none⟩ (.int .i64 v)).setCell ⟨l,r*5+1,none⟩ (.int .u32 lo)).setCell ⟨l,r*5+2,none⟩ (.int .u32 hi)):=by
 have aW:=(List.getElem?_eq_some_iff.1 hp).1
 have hl:(A.setNode r v lo hi).list=A.list.set r { p with var:=v,lo:=lo,hi:=hi }:=by simp only [ag.setNode,hp]
 have hlen:(A.setNode r v lo hi).list.length=A.list.length:=by rw [hl,List.length_set]
 have uP:(A.setNode r v lo hi).used=A.used:=by simp only [ag.setNode]
 have O9:(A.setNode r v lo hi).places=A.places:=by simp only [ag.setNode]
 have I5:(A.setNode r v lo hi).free=A.free:=by simp only [ag.setNode]
 refine ⟨⟨⟨l,lc,fv,?_,?_,?_,hF,mO,Bc,uS⟩,dJ.setNode h2 rY.1 rY.2⟩,?_⟩
 ·rw [hlen,uP,O9,aG mO,aG mO,aG mO];exact h5
 ·rw [hlen,hl,QV hp]
  exact dL (dL (dL h6 (by omega) _) (by omega) _) (by omega) _
 ·rw [I5]
  exact bf (bf (bf h7 (a:=⟨l,r*5,none⟩) uS _) (a:=⟨l,r*5+1,none⟩) uS _) (a:=⟨l,r*5+2,none⟩) uS _
 ·exact (((af.refl F w).setCell (p:=⟨l,r*5,none⟩) (.inl (by simp [hF])) _).setCell (p:=⟨l,r*5+1,none⟩) (.inl (by simp [hF])) _).setCell (p:=⟨l,r*5+2,none⟩) (.inl (by simp [hF])) _
theorem YN (b:Nat) (F:List Nat) (r lo hi v:Nat) (A:ag) (p:ak) (w:World) (h:bu w b A F) (oQ:r<=4294967295) (h2:2<=r) (hp:A.list[r]?=some p) (aH:p.taken=true) (rY:lo<=4294967295/\hi<=4294967295) (hv:v<64) (t1:A.tk lo=true) (t2:A.tk hi=true) :
  Calls Tryz.prog 163 #[.pointer (some ⟨b,0,none⟩),.int .u32 r,.agg #[.int .i64 v,.int .u32 lo,.int .u32 hi]] w fun e w'=>e=.returned (.int .i64 0)/\bu w' b (A.setNode r v lo hi) F/\af F w w':=by
 have HO:Hid (A.Ji r=0):=ag.Pg h2 (ag.aP.2 ⟨p,hp,aH⟩)
 have HC:Hid (A.jS v lo hi=0):=by
  show A.jS v lo hi=0
  unfold ag.jS;rw [if_neg (by omega),if_neg (by simp [t1,t2])]
 have aW:=(List.getElem?_eq_some_iff.1 hp).1;have HA:=Lib.hid h;have HP:=Lib.hid (And.intro hp h.ok);clear h hp aH t1 t2
 go_enter Tryz.func163,Tryz.ntmps163
 go_wp2_with fail;refine (qC b F v lo hi A _ (HA.out.upd ((af.refl [] w).alloc _) (by simp)) rY.1 rY.2).mono ?_;rintro e w1 ⟨rfl,hu⟩;rw [HC.out];have HU:=Lib.hid (((af.refl [] w).alloc (.cells #[.int .i64 v,.int .u32 lo,.int .u32 hi] 116 (0,0))).trans hu);have aY:=(hu.block _ (ah (heap_alloc_new w (.cells #[.int .i64 v,.int .u32 lo,.int .u32 hi] 116 (0,0)))) (by simp)).trans (heap_alloc_new w _);have x0:=ae (j:=0) aY rfl;have x1:=ae (j:=1) aY rfl;have x2:=ae (j:=2) aY rfl;have pO:=Lib.hid aY;clear hu aY;go_wp2_with fail;refine (Jj b F r A _ (HA.out.upd HU.out (by simp)) oQ).mono ?_;rintro e w2 ⟨rfl,rfl⟩;rw [HO.out];have hA1:=HA.out.upd HU.out (by simp);obtain ⟨l,lc,fv,h5,h6,h7,EI,mO,Bc,uS⟩:=hA1.cells;have Eo:w1.cell? ⟨b,1,none⟩=some (.slice (some ⟨l,0,none⟩) A.list.length lc):=ae h5 rfl;obtain ⟨g0,g1,g2,_,_,z0,z1,z2,_,_⟩:=zN h6 HP.out.1
 have hlx:w.heap.size≠l:=by
  have hl:=HA.out.lt l
  have:l∈F:=by rw [EI];simp
  have:=hl this;omega
 have HE:=Lib.hid (Vq (v:=v) HP.out.2 h2 HP.out.1 rY (w:=w1.drew) h5 (lN h6) (lN h7) EI mO Bc uS)
 have hri:(r:Int)<(A.list.length:Int):=by omega
 clear h5 h6 h7 hA1 EI Bc uS;go_wp2_with fail
 go_region
 go_wp2_with fail;go_ret;exact ⟨rfl,HE.out.1,((HU.out.mono (by simp)).drew).trans HE.out.2⟩
theorem vW.same {K0 K K':KV} {l x y:Nat} {R:List Nat} {D:Nat->(Nat->Bool)->Bool} (h:vW K0 l x y R K D) (hA:K'.A=K.A) (vr:K'.vars=K.vars) (od:K'.order=K.order) (lv:K'.level=K.level) (hd:∀ r,K'.hold r=K.hold r) (tr:K'.trail=K.trail):vW K0 l x y R K' D:=by
 have low:∀ {r},Ej K0 l x K r->Ej K0 l x K' r:=fun {r} hr=>hr.mono fun p hp _=>by rw [hA];exact hp
 refine ⟨by rw [vr,h.vr],by rw [od,h.od],by rw [lv,h.lv],fun r=>by rw [hd,h.hd],by rw [tr,h.tr],by rw [hA,h.pl],h.rc,h.rn,by rw [hA];exact h.old,fun r hc hr=>?_,by rw [hA];exact h.nw,by rw [hA];exact h.sem,h.uh⟩;obtain ⟨p,hp,aH,hv,h1,h2,h3⟩:=h.cr r hc hr;exact ⟨p,by rw [hA];exact hp,aH,hv,low h1,low h2,h3⟩
structure St (K0:KV) (l x y:Nat) (N:List (Nat × Nat)) (R:List Nat) (K:KV) (T:List DM) (P:List Nat) (D:Nat->(Nat->Bool)->Bool) (M:List (Nat × Nat)):Prop where
 mid:vW K0 l x y R K D
 wf:K.Wf P
 ti:dW T K R
 pos:K.Pos
 cnt:uT K0 K x N M
theorem KV.Wf.gU {K:KV} {P:List Nat} (h:K.Wf P) {r:Nat} (ht:K.A.tk r=true):(K.gU r).Wf (r::P):=by
 unfold KV.gU;split
 ·rename_i h2;exact h.Ii h2 ht
 ·exact h.acd (by omega)
theorem KV.Pos.gU {K:KV} {P:List Nat} (h:K.Wf P) {r:Nat} (ht:K.A.tk r=true) (hp:∀ s,2<=s->K.A.tk s=true->s≠r->0<K.use s) (hr:2<=r->0<K.use r\/True):(K.gU r).Pos:=by
 intro s h2 hs
 rw [KV.yT] at hs;rw [KV.xJ K r s (fun h3=>h.tu r h3 ht)]
 by_cases e:s=r
 ·subst e;rw [if_pos ⟨rfl,h2⟩];omega
 ·have:=hp s h2 hs e;omega
theorem St.get {K0 K K':KV} {l x y r:Nat} {q:Nat × Nat} {N Q M:List (Nat × Nat)} {R P:List Nat} {T T':List DM} {D:Nat->(Nat->Bool)->Bool} (h:St K0 l x y N R K T P D M) (nb:Nb K0 l x y) (F:lZ K0 x Q N) (hq:q∈Q)
  (ha:Deep K0 l q.1) (hb:Deep K0 l q.2) (dS:K0.A.used+N.length<=K0.A.places) (G:JL K R x q.1 q.2 r K') (ti:dW T' K' R) :
  ∃ D' M',St K0 l x y N R (K'.gU r) T' (r::P) D' M'/\Ej K0 l x (K'.gU r) r/\(∀ z,D' r z=if z x then K0.den q.2 z else K0.den q.1 z)/\(∀ s,K.A.tk s=true->∀ z,D' s z=D s z) /\
   (∀ (s:Nat) (p:ak),K.A.list[s]?=some p->p.taken=true->(K'.gU r).A.list[s]?=some p):=by
 obtain ⟨D',hm,Ew,pR,ach,Vr⟩:=h.mid.get nb h.wf ha hb G;have ta:=h.mid.tk ha.1;have tb:=h.mid.tk hb.1;obtain ⟨hx,_⟩:=nb.facts
 have hxv:x<K.vars:=by rw [h.mid.vr];exact hx
 have EL:K'.Wf P:=by
  rcases G with ⟨_,_,rfl⟩ | ⟨_,_,rfl⟩ | ⟨_,Tk,_⟩
  ·exact h.wf
  ·exact h.wf
  ·exact Tk.wf h.wf ta tb ⟨by omega,by omega⟩
 have Vt:∀ s,2<=s->K'.A.tk s=true->s≠r->0<K'.use s:=fun s h2 hs hne=>by
  rcases G with ⟨_,_,rfl⟩ | ⟨_,_,rfl⟩ | ⟨_,Tk,_⟩
  ·exact h.pos s h2 hs
  ·exact h.pos s h2 hs
  ·rw [Tk.fr.tk] at hs
   simp [hne] at hs
   have:=h.pos s h2 hs
   rw [Tk.us,if_neg hne];omega
 have aci:∃ M',uT K0 K' x N M':=by
  rcases G with ⟨_,_,rfl⟩ | ⟨_,_,rfl⟩ | ⟨hne,Tk,bK⟩
  ·exact ⟨M,h.cnt⟩
  ·exact ⟨M,h.cnt⟩
  ·have hn3:¬ K.nR x q.1 q.2:=fun ⟨s,p,h2,hp,aH,hv,e1,e2⟩=>bK s p (h.mid.Dh nb hp (by rw [e1];exact ha) (by rw [e2];exact hb)) h2 hp aH ⟨hv,e1,e2⟩
   obtain ⟨h1,h2,_⟩:=h.cnt.room F h.mid nb ha hb hq hne hn3 dS;exact ⟨_,h.cnt.took Tk h1 h2⟩
 obtain ⟨M',aci⟩:=aci;have hA:=KV.yT K' r;refine ⟨D',M',⟨hm.same hA (KV.uK _ _) (KV.vX _ _) (KV.vY _ _) (KV.yU _ _) (KV.vZ _ _),EL.gU Ew.1,ti.same hA (KV.uK _ _),KV.Pos.gU EL Ew.1 Vt fun _=>.inr trivial,aci.same (by rw [hA]) fun a b h3=>by unfold KV.nR at *;rw [hA];exact h3⟩,Ew.mono fun p hp _=>by rw [hA];exact hp,pR,ach,fun s p hp aH=>by rw [hA];exact Vr s p hp aH⟩
theorem St.turn {K0 K:KV} {l x y lo hi a00 a01 a10 a11 c:Nat} {p:ak} {N Q M:List (Nat × Nat)} {R P:List Nat} {T:List DM} {DY:DM} {D:Nat->(Nat->Bool)->Bool} (h:St K0 l x y N (c::R) K T (hi::lo::P) D M) (nb:Nb K0 l x y) (F:lZ K0 x Q N) (hQ:∀ q,q∈Q->Deep K0 l q.1/\Deep K0 l q.2)
  (F4:NG K0 l x y c p a00 a01 a10 a11) (rP:Ej K0 l x K lo) (wW:Ej K0 l x K hi) (dlo:∀ z,D lo z=if z x then K0.den a10 z else K0.den a00 z) (dhi:∀ z,D hi z=if z x then K0.den a11 z else K0.den a01 z)
  (rY:lo<=4294967295/\hi<=4294967295) (hD:T[y]?=some DY) :
  St K0 l x y N R (K.iC c y lo hi) (T.set y (DY.put (nk y lo hi) (.lit (.int .u32 c)))) (p.lo::p.hi::P) D M:=by
 obtain ⟨_,hy,_⟩:=nb.facts;obtain ⟨hm,hne,hp⟩:=h.mid.turn nb F4 rP wW dlo dhi
 have hyv:y<K.vars:=by rw [h.mid.vr];exact hy
 have BC:2<=c:=(h.mid.rc c (by simp)).1;have hcR:=(List.nodup_cons.1 h.mid.rn).1;have EL:K.Wf (lo::hi::P):=h.wf.perm (List.Perm.swap _ _ _)
 have at_:=fun s=>nP (A:=K.A) (v:=(y:Int)) (lo:=lo) (hi:=hi) hp s
 refine ⟨hm,EL.iC BC hp F4.tk hyv rY,h.ti.iC h.wf hcR BC hp F4.tk hyv rY hD fun s q h2 hq rC hs=>h.mid.JM nb F4 dlo dhi h2 hq rC hs,fun s h2 hs=>?_,h.cnt.iC h.mid nb F hQ⟩
 have uO:K.A.tk s=true:=by
  have e:(K.A.setNode c (y:Int) lo hi).tk s=true:=hs;unfold ag.tk at e ⊢;rw [at_] at e
  by_cases e1:s=c
  ·subst e1;rw [hp];exact F4.tk
  ·rw [if_neg e1] at e;exact e
 exact h.pos s h2 uO
theorem qh {α : Type} {C:List α} {i:Nat} {c:α} (h:C[i]?=some c):C.drop i=c::C.drop (i+1)/\C.take (i+1)=C.take i++[c]:=by
 obtain ⟨hl,e⟩:=List.getElem?_eq_some_iff.1 h;exact ⟨by rw [List.drop_eq_getElem_cons hl,e],by rw [List.take_add_one,h];rfl⟩
theorem lZ.exists (K:KV) (x:Nat):∀ Q:List (Nat × Nat),∃ N,lZ K x Q N:=by
 intro Q
 have key:∀ n,∃ N,lZ K x (Q.take n) N:=by
  intro n
  induction n with
  | zero=>exact ⟨[],by simpa using lZ.nil K x⟩
  | succ n ih =>
   obtain ⟨N,hN⟩:=ih;rw [List.take_add_one]
   cases hq:Q[n]? with
   | none=>exact ⟨N,by simpa using hN⟩
   | some q =>
    show ∃ N,lZ K x (Q.take n++[q]) N
    by_cases h1:q.1=q.2
    ·exact ⟨N,hN.skip (.inl h1)⟩
    ·by_cases h2:K.nR x q.1 q.2
     ·exact ⟨N,hN.skip (.inr (.inl h2))⟩
     ·by_cases h3:q∈N
      ·exact ⟨N,hN.skip (.inr (.inr h3))⟩
      ·exact ⟨_,hN.add h1 h2 h3⟩
 obtain ⟨N,hN⟩:=key Q.length;exact ⟨N,by simpa using hN⟩
theorem lZ.len_eq {K:KV} {x:Nat} {Q N N':List (Nat × Nat)} (h:lZ K x Q N) (h':lZ K x Q N'):N.length=N'.length :=
 Nat.le_antisymm (List.Nodup.length_le_of_subset h.nd fun q hq=>(h'.iff q).2 ((h.iff q).1 hq)) (List.Nodup.length_le_of_subset h'.nd fun q hq=>(h.iff q).2 ((h'.iff q).1 hq))
structure xK (K:KV) (l:Nat) (K':KV):Prop where
 vr:K'.vars=K.vars
 pl:K'.A.places=K.A.places
 od:K'.order=(K.order.set l (K.order.getD (l+1) 0)).set (l+1) (K.order.getD l 0)
 hd:∀ r,K'.hold r=K.hold r
 tr:K'.trail=K.trail
 den:∀ r,K.A.tk r=true->K'.A.tk r=true->∀ z,K'.den r z=K.den r z
 uq:∀ r s,K.A.tk r=true->K'.A.tk s=true->(∀ z,K.den r z=K'.den s z)->r=s
structure Io (b l:Nat) (K:KV) (q:aA) (w:World) (e:Ending) (w':World):Prop where
  ex:∃ (C:List bY) (N:List (Nat × Nat)),dU K l (K.order.getD l 0) (K.order.getD (l + 1) 0) C∧lZ K (K.order.getD l 0) (C.flatMap bY.qs) N ∧
    ((e=.returned (.bool false)∧K.A.places < K.A.used + N.length∧af [] w w') ∨
     (e=.returned (.bool true)∧K.A.used + N.length≤K.A.places∧∃ (K':KV) (T':List DM) (q':aA),xK K l K'∧(C=[]→K'=K.qc l)∧bV w' b K' T' q'∧af (q.all b) w w'∧Sub (q.all b) w (q'.all b)))
structure Vu (l x y:Nat) (K:KV) (w:World) (e:Ending) (w':World):Prop where
 ex:∃ (C:List bY) (la:Option Addr) (lc:Nat),e=.returned (.slice la C.length lc)/\dU K l x y C/\(∀ c,c∈C->c.R32)/\w'.ownsRow w.heap.size 240 8 (.slice la C.length lc) C.length (nS x C)/\af [] w w'
theorem dU.len {K:KV} {l x y:Nat} {C:List bY} (h:dU K l x y C) (hk:K.Wf []):C.length<=1048576:=by
 have h1:(C.map bY.r).length<=(List.range 1048576).length:=List.Nodup.length_le_of_subset h.nd fun r hr=>by
  have ht:=Nb.nO ((h.iff r).1 hr);have h2:=ag.iZ ht;have h3:=hk.ok.lp;have h4:=hk.ok.pm;exact List.mem_range.2 (by omega)
 simpa using h1
end Go.Proofs.YtfkopmhpppeheaaGreat
