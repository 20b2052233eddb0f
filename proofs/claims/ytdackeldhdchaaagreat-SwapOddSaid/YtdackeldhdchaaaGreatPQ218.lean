import Derived.Test.YtdackeldhdchaaaGreatPQ217
import Derived.Test.YtdackeldhdchaaaGreatPQ215
import Derived.Test.YtdackeldhdchaaaGreatPQ23
import Derived.Test.YtdackeldhdchaaaGreatPQ24
import Derived.WideKeyEntry
set_option maxRecDepth 100000
set_option maxHeartbeats 3200000
namespace Go.Proofs.YtdackeldhdchaaaGreat
open Go.RowKit Go.Maps Go.ChangeMaps Go.WideShapes
def CrV.flat (x:Nat) (c:CrV):List Value:=[.int .u32 c.r,.int .i64 x,.int .u32 c.lo,.int .u32 c.hi,.int .u32 c.a00,.int .u32 c.a01,.int .u32 c.a10,.int .u32 c.a11]
def amN (x:Nat) (C:List CrV):List Value:=C.flatMap (CrV.flat x)
theorem an7 (x:Nat):∀ (C:List CrV) (i:Nat) (c:CrV),C[i]?=some c->∀ k,k<8->(amN x C)[i*8+k]?=(c.flat x)[k]?
 | [],i,c,h,_,_=>by simp at h
 | d::C,0,c,h,k,hk=>by
  simp at h;subst h
  show ((d.flat x)++amN x C)[0*8+k]?=_
  rw [List.getElem?_append_left (by simp [CrV.flat];omega)]
  congr 1;omega
 | d::C,i+1,c,h,k,hk=>by
  have ih:=an7 x C i c (by simpa using h) k hk
  show ((d.flat x)++amN x C)[(i+1)*8+k]?=_
  rw [List.getElem?_append_right (by simp [CrV.flat];omega),<- ih]
  congr 1;simp [CrV.flat];omega
def CrV.R32 (c:CrV):Prop:=c.r<=4294967295/\c.lo<=4294967295/\c.hi<=4294967295/\c.a00<=4294967295/\c.a01<=4294967295/\c.a10<=4294967295/\c.a11<=4294967295
theorem aFF {W:World} {mb:Nat} (h:W.heap[mb]?=some (.map #[] 0)):W.ownsMap Tryz.prog 142 (plainElem (H:=Unit) Tryz.prog 3) mb 0 (.map []):=by
 obtain ⟨es,clock,q1,q2,q3,q4⟩:=World.ownsMap_made W Tryz.prog 142 (plainElem (H:=Unit) Tryz.prog 3);rw [heap_alloc_new] at q1;cases q1;exact ⟨#[],0,h,q2,Nat.zero_le _,rfl⟩
structure akc (x:Nat) (N:List (Nat × Nat)) (D:DM):Prop where
 im:IsMap D
 has:∀ k,Maps.has D k=true↔∃ q,q∈N/\k=nk x q.1 q.2
 sz:Maps.size D=N.length
 ub:∀ q,q∈N->q.1<=4294967295/\q.2<=4294967295
theorem akc.nil (x:Nat):akc x [] (.map []):=⟨isMap_empty,fun k=>by simp [Maps.has],rfl,by simp⟩
theorem akc.mem {x:Nat} {N:List (Nat × Nat)} {D:DM} (h:akc x N D) (hx:x<=64) {a d:Nat} (ha:a<=4294967295) (hd:d<=4294967295):Maps.has D (nk x a d)=true↔(a,d)∈N:=by
 rw [h.has];constructor
 ·rintro ⟨q,hq,e⟩
  have hu:=h.ub q hq;obtain ⟨_,e1,e2⟩:=atK (wfI (by omega) (by omega)) (wfR ha) (wfR hd) (wfI (by omega) (by omega)) (wfR hu.1) (wfR hu.2) e;have:q=(a,d):=Prod.ext e1.symm e2.symm
  rw [<- this];exact hq
 ·intro hq;exact ⟨(a,d),hq,rfl⟩
theorem akc.again {x:Nat} {N:List (Nat × Nat)} {D:DM} (h:akc x N D) (hx:x<=64) (ht:Tidy D) {a d:Nat} (ha:a<=4294967295) (hd:d<=4294967295) (hm:(a,d)∈N) (v:DataW Unit):akc x N (D.put (nk x a d) v):=by
 refine ⟨h.im.put _ _,fun k=>?_,?_,h.ub⟩
 ·by_cases e:k=nk x a d
  ·subst e
   rw [has_put_same h.im (ala _ _ _)];exact ⟨fun _=>⟨(a,d),hm,rfl⟩,fun _=>rfl⟩
  ·rw [has_put_other e];exact h.has k
 ·rw [size_put ht,if_pos ((h.mem hx ha hd).2 hm)];exact h.sz
theorem akc.new {x:Nat} {N:List (Nat × Nat)} {D:DM} (h:akc x N D) (hx:x<=64) (ht:Tidy D) {a d:Nat} (ha:a<=4294967295) (hd:d<=4294967295) (hm:(a,d)∉N) (v:DataW Unit):akc x (N++[(a,d)]) (D.put (nk x a d) v):=by
 refine ⟨h.im.put _ _,fun k=>?_,?_,fun q hq=>?_⟩
 ·by_cases e:k=nk x a d
  ·subst e
   rw [has_put_same h.im (ala _ _ _)];exact ⟨fun _=>⟨(a,d),by simp,rfl⟩,fun _=>rfl⟩
  ·rw [has_put_other e,h.has]
   constructor
   ·rintro ⟨q,hq,rfl⟩;exact ⟨q,by simp [hq],rfl⟩
   ·rintro ⟨q,hq,rfl⟩
    rcases List.mem_append.1 hq with hq | hq
    ·exact ⟨q,hq,rfl⟩
    ·simp at hq;subst hq;exact absurd rfl e
 ·have hno:Maps.has D (nk x a d)≠true:=fun e=>hm ((h.mem hx ha hd).1 e)
  rw [size_put ht,if_neg hno,h.sz];simp
 ·rcases List.mem_append.1 hq with hq | hq
  ·exact h.ub q hq
  ·simp at hq;subst hq;exact ⟨ha,hd⟩
structure aJy (x:Nat) (K:KV) (C:List CrV) (w:World) (e:Ending) (w':World):Prop where
 ex:∃ N:List (Nat × Nat),e=.returned (.int .i64 N.length)/\FrN K x (C.flatMap CrV.qs) N/\Upd [] w w'
structure ahO (w:World) (x mb:Nat) (K:KV) (Q:List (Nat × Nat)) (wr:World):Prop where
 ex:∃ (N:List (Nat × Nat)) (D:DM),FrN K x Q N/\akc x N D/\wr.ownsMap Tryz.prog 142 (plainElem (H:=Unit) Tryz.prog 3) mb (Maps.size D) D
 up:Upd [] w wr
theorem ahO.keep {w wr w2:World} {x mb:Nat} {K:KV} {Q:List (Nat × Nat)} (h:ahO w x mb K Q wr) (u:Upd [] wr w2):ahO w x mb K Q w2:=by
 obtain ⟨N,D,h1,h2,h3⟩:=h.ex;exact ⟨⟨N,D,h1,h2,aev h3 (u.block _ h3.lt (by simp))⟩,h.up.trans u⟩
theorem ahO.skip {w wr:World} {x mb:Nat} {K:KV} {Q:List (Nat × Nat)} {q:Nat × Nat} (h:ahO w x mb K Q wr) (hq:q.1=q.2\/K.has3 x q.1 q.2):ahO w x mb K (Q++[q]) wr:=by
 obtain ⟨N,D,h1,h2,h3⟩:=h.ex;exact ⟨⟨N,D,h1.skip (hq.imp id .inl),h2,h3⟩,h.up⟩
theorem ayQ (w:World):(zeroValue 3).run Tryz.prog w=.ok (.int .i64 0) w:=by kernel_rfl
theorem aMJ:WideMaps.KeyLaw Tryz.prog 142:=deep_law_gate laidOut (of_decide_eq_true (by kernel_rfl)) (of_decide_eq_true (by kernel_rfl)) (by kernel_rfl) (by kernel_rfl)
theorem aq2 {W:World} {b:Nat} {es es1:Array MapEntry} {clock apd:Nat} (hb:W.heap[b]?=some (.map es clock)):Upd [b] W (setBlock W b (.map es1 apd)):=ajV ⟨es,clock,es1,apd,hb,rfl⟩
open Go.MapKept in
theorem aJz {W:World} {mb n:Nat} {D:DM} {key:Value} {kl:Lit} (h:W.ownsMap Tryz.prog 142 (plainElem (H:=Unit) Tryz.prog 3) mb n D) (hn:n<maxLen) (aiQ:keyOf Tryz.prog 142 key=some kl) :
  ∃ (c0:Int) (st:Value) (W1:World),(Instr.lookup 272 (.map (some mb)) key false).run Tryz.prog W=.ok (.int .i64 c0) W/\(Instr.lookup 272 (.map (some mb)) key false).run Tryz.prog W1=.ok (.int .i64 c0) W1 /\
   (Instr.mapEntry 272 (.map (some mb)) key).run Tryz.prog W=.ok (.tuple #[.int .i64 c0,st]) W1/\Upd [mb] W W1 /\
   ∀ c:Int,(Lit.int .i64 c).wf=true->∃ W2,(Instr.entryStore 272 (.map (some mb)) st (.int .i64 c)).run Tryz.prog W1=.ok () W2/\W2.ownsMap Tryz.prog 142 (plainElem (H:=Unit) Tryz.prog 3) mb (n+1) (D.put kl (.lit (.int .i64 c)))/\Upd [mb] W W2:=by
 obtain ⟨c0,aqL,hat,hwc⟩:=h.lookup_int adh Tryz.underlying272 Tryz.underlying3 (ayQ _) aiQ;have h':=h;obtain ⟨es,clock,hb,F,hs,hDD⟩:=h
 have hz:=fun u:World=>ayQ u
 obtain ⟨v0,st,es1,apd,hE,_,hS⟩:=WideElems.entry_then_store aMJ Tryz.underlying272 hz hb F aiQ;have hb1:(setBlock W mb (.map es1 apd)).heap[mb]?=some (.map es1 apd):=heap_setBlock_same hb _
 have aR5:v0=.int .i64 c0/\(Instr.lookup 272 (.map (some mb)) key false).run Tryz.prog (setBlock W mb (.map es1 apd))=.ok (.int .i64 c0) (setBlock W mb (.map es1 apd)):=by
  rcases adh.find W aiQ es.toList F.keys with ⟨h1,h2⟩ | ⟨j,e0,h1,h2,h3⟩
  ·have hl:(Instr.lookup 272 (.map (some mb)) key false).run Tryz.prog W=.ok (.int .i64 0) W:=by
    simp [Instr.lookup,run_underlying Tryz.underlying272,MapKept.run_getObj_map hb,adh.check W _ aiQ,h1,hz,Result.andThen]
   have hc0:c0=0:=by
    rw [aqL] at hl
    simpa using hl
   have he:(Instr.mapEntry 272 (.map (some mb)) key).run Tryz.prog W=.ok (.tuple #[.int .i64 0,goInt clock]) (setBlock W mb (.map (es.push ⟨key,.int .i64 0,clock⟩) (clock+1))):=by
    simp [Instr.mapEntry,run_underlying Tryz.underlying272,MapKept.run_getObj_map hb,adh.check W false aiQ,h1,hz,MapKept.run_setObj_map _ hb,Result.andThen,setBlock]
   have hup:(Instr.mapUpdate 272 (.map (some mb)) key (.int .i64 0)).run Tryz.prog W=.ok () (setBlock W mb (.map (es.push ⟨key,.int .i64 0,clock⟩) (clock+1))):=by
    simp [Instr.mapUpdate,run_underlying Tryz.underlying272,MapKept.run_getObj_map hb,adh.check W false aiQ,h1,MapKept.run_setObj_map _ hb,Result.andThen,setBlock]
   rw [hE] at he
   simp only [Result.ok.injEq,Value.tuple.injEq] at he
   obtain ⟨e1,e2⟩:=he
   have e3:v0=.int .i64 0:=by have:=congrArg (fun a:Array Value=>a[0]?) e1;simpa using this
   refine ⟨by rw [e3,hc0],?_⟩;obtain ⟨w9,awg,ab3,_⟩:=h'.store adh Tryz.underlying272 hn aiQ (plainElem_int (H:=Unit) Tryz.underlying3 (wfI (n:=0) (by omega) (by omega)));rw [hup] at awg
   simp only [Result.ok.injEq,true_and] at awg
   rw [e2,hc0,awg];obtain ⟨es9,aVY,hb9,F9,_,_⟩:=ab3
   have hb8:w9.heap[mb]?=some (.map (es.push ⟨key,.int .i64 0,clock⟩) (clock+1)):=by rw [<- awg];exact heap_setBlock_same hb _
   rw [hb8] at hb9
   simp only [Option.some.injEq,Obj.map.injEq] at hb9
   obtain ⟨rfl,rfl⟩:=hb9
   rcases Maps.fit_look false adh Tryz.underlying272 (ayQ w9) hb8 F9 aiQ with ⟨hr,_,_⟩ | ⟨x,y,hm,hk,hr,_⟩
   ·simpa using hr
   ·simp only [Array.toList_push,List.mem_append,List.mem_singleton] at hm
    rcases hm with hm | rfl
    ·exact absurd hk (h2 x hm)
    ·simpa using hr
  ·have hj:es[j]?=some e0:=by simpa using h2
   have hl:(Instr.lookup 272 (.map (some mb)) key false).run Tryz.prog W=.ok e0.val W:=by
    simp [Instr.lookup,run_underlying Tryz.underlying272,MapKept.run_getObj_map hb,adh.check W _ aiQ,h1,Result.andThen]
   have auo:es.modify j (fun e=>{ e with key:=key })=es:=by
    apply Array.ext'
    rw [Array.toList_modify,modify_eq_set _ _ _ _ h2]
    have:({ e0 with key:=key }:MapEntry)=e0:=by rw [<- h3]
    rw [this];exact WideElems.set_self _ _ _ h2
   have he:(Instr.mapEntry 272 (.map (some mb)) key).run Tryz.prog W=.ok (.tuple #[e0.val,goInt e0.born]) (setBlock W mb (.map es clock)):=by
    simp [Instr.mapEntry,run_underlying Tryz.underlying272,MapKept.run_getObj_map hb,adh.check W false aiQ,h1,hj,h3,adh.stays W aiQ,auo,MapKept.run_setObj_map _ hb,Result.andThen,setBlock]
   have aR6:setBlock W mb (.map es clock)=W:=by
    have hlt:=aa4 hb
    have:W.heap.setIfInBounds mb (.map es clock)=W.heap:=by
     apply Array.ext_getElem?
     intro k
     by_cases e:mb=k
     ·subst e;rw [Array.getElem?_setIfInBounds_self_of_lt hlt,hb]
     ·rw [Array.getElem?_setIfInBounds_ne e]
    unfold setBlock;rw [this]
   rw [hE] at he
   simp only [Result.ok.injEq,Value.tuple.injEq] at he
   obtain ⟨e1,e2⟩:=he
   have e3:v0=e0.val:=by have:=congrArg (fun a:Array Value=>a[0]?) e1;simpa using this
   rw [aqL] at hl
   simp only [Result.ok.injEq,and_true] at hl
   refine ⟨by rw [e3,hl],?_⟩
   rw [e2,aR6];exact aqL
 refine ⟨c0,goInt st,setBlock W mb (.map es1 apd),aqL,aR5.2,by rw [<- aR5.1];exact hE,aq2 hb,fun c hc=>?_⟩;obtain ⟨es2,aVZ,hS2,hU2⟩:=hS (setBlock W mb (.map es1 apd)) (.int .i64 c) hb1;obtain ⟨w9,awg,ab3,_⟩:=h'.store adh Tryz.underlying272 hn aiQ (plainElem_int (H:=Unit) Tryz.underlying3 hc);rw [hU2] at awg
 simp only [Result.ok.injEq,true_and] at awg
 refine ⟨_,hS2,aev ab3 ?_,(aq2 hb).trans (aq2 hb1)⟩;rw [<- awg,heap_setBlock_same hb1 _,heap_setBlock_same hb _]
theorem ahO.put {w wr w9:World} {x mb a d:Nat} {K:KV} {Q N:List (Nat × Nat)} {D:DM} {v:DataW Unit} (hu:Upd [] w wr) (h1:FrN K x Q N) (h2:akc x N D) (hx:x<=64) (ht:Tidy D) (ha:a<=4294967295) (hd:d<=4294967295) (hne:a≠d) (hno:¬ K.has3 x a d)
  (hmb:w.heap.size<=mb) (ab3:w9.ownsMap Tryz.prog 142 (plainElem (H:=Unit) Tryz.prog 3) mb (Maps.size (D.put (nk x a d) v)) (D.put (nk x a d) v)) (h9:Upd [mb] wr w9):ahO w x mb K (Q++[(a,d)]) w9:=by
 have hu9:Upd [] w w9:=hu.then h9 fun k hk=>.inr (by simp at hk;omega)
 by_cases hm:(a,d)∈N
 ·exact ⟨⟨N,_,h1.skip (.inr (.inr hm)),h2.again hx ht ha hd hm v,ab3⟩,hu9⟩
 ·exact ⟨⟨_,_,h1.add hne hno hm,h2.new hx ht ha hd hm v,ab3⟩,hu9⟩
theorem aFG (b x:Nat) (K:KV) (T:List DM) (q:abM) (C:List CrV) (la:Option Addr) (lc base:Nat) (w:World) (h:afF w b K T q) (hx:x<K.vars) (hC:∀ c,c∈C->c.R32) (hl:C.length<=1048576)
  (hr:w.ownsRow base 226 8 (.slice la C.length lc) C.length (amN x C)) :
  Calls Tryz.prog 144 #[.pointer (some ⟨b,0,none⟩),.int .i64 x,.slice la C.length lc] w fun e w'=>aJy x K C w e w':=by
 have hmm:=@run_makeMap Tryz.prog;have hvs:=h.ok.wf.vs;have hlen:=h.ti.len;have hD:T[x]?=some (T[x]'(by omega)):=List.getElem?_eq_getElem (by omega);generalize T[x]'(by omega)=DX at hD;have HM0:Hid (ahO w x w.heap.size K [] (w.alloc (.map #[] 0))):=⟨⟨[],.map [],FrN.nil K x,akc.nil x,aFF (heap_alloc_new w _)⟩,(Upd.refl [] w).alloc _⟩
 have HK:Hid (∀ y:World,Upd [] w y->afF y b K T q):=fun y u=>h.upd u (by simp)
 have HR:Hid (∀ y:World,Upd [] w y->y.ownsRow base 226 8 (.slice la C.length lc) C.length (amN x C)):=fun y u=>aaX hr fun k hk=>u.block k (hr.lt k hk).2 (by simp)
 have HC:=Lib.hid hC;have HD:=Lib.hid hD;have HW:=Lib.hid (And.intro h.ok.wf h.ti)
 have hkb:Hid (∀ y:World,Upd [] w y->y.cell? ⟨b,1,none⟩=some (.pointer (some ⟨q.t,0,none⟩))):=fun y u=>u.cellK (aac h.mem.blk rfl)
 clear h hr hC hD hlen
 go_enter Tryz.func144,Tryz.ntmps144
 go_wp2_with fail
 go_loopg [17] C.length (fun gg s17 wr=>∃ i:Nat,C.length-i=gg/\i<=C.length/\s17=.int .i64 i/\ahO w x w.heap.size K ((C.take i).flatMap CrV.qs) wr)
 case atStart=>exact ⟨0,by omega,by omega,rfl,by simpa using HM0.out⟩
 case round =>
  obtain ⟨i,rfl,hi,rfl,hF⟩:=hrel
  by_cases hlt:i<C.length
  ·obtain ⟨c,hc⟩ : ∃ c,C[i]?=some c:=⟨_,List.getElem?_eq_getElem hlt⟩
   have abP:=HR.out wr hF.up;obtain ⟨gl,rfl⟩:=aeP abP (by omega);have hg:=an7 x C i c hc;have c0:=abf abP (j:=i*8+0) (u:=.int .u32 c.r) (by rw [hg 0 (by omega)];rfl);have c1:=abf abP (j:=i*8+1) (u:=.int .i64 x) (by rw [hg 1 (by omega)];rfl);have c2:=abf abP (j:=i*8+2) (u:=.int .u32 c.lo) (by rw [hg 2 (by omega)];rfl);have c3:=abf abP (j:=i*8+3) (u:=.int .u32 c.hi) (by rw [hg 3 (by omega)];rfl);have c4:=abf abP (j:=i*8+4) (u:=.int .u32 c.a00) (by rw [hg 4 (by omega)];rfl);have c5:=abf abP (j:=i*8+5) (u:=.int .u32 c.a01) (by rw [hg 5 (by omega)];rfl);have c6:=abf abP (j:=i*8+6) (u:=.int .u32 c.a10) (by rw [hg 6 (by omega)];rfl);have c7:=abf abP (j:=i*8+7) (u:=.int .u32 c.a11) (by rw [hg 7 (by omega)];rfl);rw [Nat.add_zero] at c0
   have hil:(i:Int)<(C.length:Int):=by omega
   have aR7:=HC.out c (List.mem_of_getElem? hc);have HCI:=Lib.hid (And.intro hc aR7);have HF:=Lib.hid hF;have hbx:=heap_alloc_new wr (.cells #[.int .u32 c.r,.int .i64 x,.int .u32 c.lo,.int .u32 c.hi,.int .u32 c.a00,.int .u32 c.a01,.int .u32 c.a10,.int .u32 c.a11] 226 (0,0));have z0:=aac (j:=0) hbx rfl;have z4:=aac (j:=4) hbx rfl;have z5:=aac (j:=5) hbx rfl;have z6:=aac (j:=6) hbx rfl;have z7:=aac (j:=7) hbx rfl;clear hF abP hg hc hbx aR7;go_wp2_with fail;obtain ⟨wI,hwI⟩ : ∃ wI,((wr.alloc (.cells #[.int .u32 c.r,.int .i64 x,.int .u32 c.lo,.int .u32 c.hi,.int .u32 c.a00,.int .u32 c.a01,.int .u32 c.a10,.int .u32 c.a11] 226 (0,0))).alloc (.cells #[.int .i64 x,.int .u32 c.a00,.int .u32 c.a10,.int .i64 x,.int .u32 c.a01,.int .u32 c.a11] 142 (0,0)))=wI:=⟨_,rfl⟩
   have hB:wI.heap[wr.heap.size+1]?=some (.cells #[.int .i64 x,.int .u32 c.a00,.int .u32 c.a10,.int .i64 x,.int .u32 c.a01,.int .u32 c.a11] 142 (0,0)):=by
    have h:=heap_alloc_new (wr.alloc (.cells #[.int .u32 c.r,.int .i64 x,.int .u32 c.lo,.int .u32 c.hi,.int .u32 c.a00,.int .u32 c.a01,.int .u32 c.a10,.int .u32 c.a11] 226 (0,0))) (.cells #[.int .i64 x,.int .u32 c.a00,.int .u32 c.a10,.int .i64 x,.int .u32 c.a01,.int .u32 c.a11] 142 (0,0));rw [World.size_alloc] at h
    rw [<- hwI];exact h
   have hFI:ahO w x w.heap.size K ((C.take i).flatMap CrV.qs) wI:=HF.out.keep (by rw [<- hwI];exact ((Upd.refl [] wr).alloc _).alloc _)
   have hBn:w.heap.size≠wr.heap.size+1:=by have:=HF.out.up.size;omega
   rw [hwI];generalize wr.heap.size+1=B at *;generalize wr.heap.size=B9 at *;have HI:=Lib.hid (And.intro hFI hB);clear hwI hB hFI z0 z4 z5 z6 z7 c0 c1 c2 c3 c4 c5 c6 c7 HF
   go_loopg [35] 2 (fun gg s35 wy=>∃ j:Nat,2-j=gg/\j<=2/\s35=.int .i64 j/\ahO w x w.heap.size K ((C.take i).flatMap CrV.qs++c.qs.take j) wy/\wy.heap[B]?=some (.cells #[.int .i64 x,.int .u32 c.a00,.int .u32 c.a10,.int .i64 x,.int .u32 c.a01,.int .u32 c.a11] 142 (0,0)))
   case atStart=>exact ⟨0,by omega,by omega,rfl,by simpa using HI.out.1,HI.out.2⟩
   case round =>
    obtain ⟨j,rfl,hj,rfl,hF,hB⟩:=hrel
    by_cases hjt:j<2
    ·have hji:(j:Int)<2:=by omega
     have hq0:∃ a d:Nat,c.qs[j]?=some (a,d)/\(a<=4294967295/\d<=4294967295)/\wr.cell? ⟨B,j*3,none⟩=some (.int .i64 x)/\wr.cell? ⟨B,j*3+1,none⟩=some (.int .u32 a)/\wr.cell? ⟨B,j*3+2,none⟩=some (.int .u32 d):=by
      obtain ⟨_,_,_,e1,e2,e3,e4⟩:=HCI.out.2
      match j,hjt with
      | 0,_=>exact ⟨c.a00,c.a10,rfl,⟨e1,e3⟩,aac hB rfl,aac hB rfl,aac hB rfl⟩
      | 1,_=>exact ⟨c.a01,c.a11,rfl,⟨e2,e4⟩,aac hB rfl,aac hB rfl,aac hB rfl⟩
     obtain ⟨a,d,hqj,⟨ha,hd⟩,y0,y1,y2⟩:=hq0
     have htk:c.qs.take (j+1)=c.qs.take j++[(a,d)]:=by rw [List.take_add_one,hqj];rfl
     have hu1:Upd [] wr (wr.alloc (.cells #[.int .i64 x,.int .u32 a,.int .u32 d] 142 (0,0))):=(Upd.refl [] wr).alloc _;have hbx:=heap_alloc_new wr (.cells #[.int .i64 x,.int .u32 a,.int .u32 d] 142 (0,0))
     have HX:Hid (∀ z:World,Upd [] (wr.alloc (.cells #[.int .i64 x,.int .u32 a,.int .u32 d] 142 (0,0))) z->z.cell? ⟨b,1,none⟩=some (.pointer (some ⟨q.t,0,none⟩))/\z.cell? ⟨wr.heap.size,0,none⟩=some (.int .i64 x)/\z.cell? ⟨wr.heap.size,1,none⟩=some (.int .u32 a)/\z.cell? ⟨wr.heap.size,2,none⟩=some (.int .u32 d)):=fun z u =>
      ⟨hkb.out z (hF.up.trans (hu1.trans u)),u.cellK (aac (j:=0) hbx rfl),u.cellK (aac (j:=1) hbx rfl),u.cellK (aac (j:=2) hbx rfl)⟩
     have HTA:Hid (∀ z:World,Upd [] (wr.alloc (.cells #[.int .i64 x,.int .u32 a,.int .u32 d] 142 (0,0))) z->afl z q.t T q.FT):=fun z u=>(HK.out z (hF.up.trans (hu1.trans u))).mem.tab
     have HFB:=Lib.hid (And.intro hF (And.intro hB hu1));have HTK:=Lib.hid htk;obtain ⟨x0,x1,x2,x3⟩:=HX.out _ (Upd.refl _ _);clear hF hB hqj htk hu1 hbx;go_wp2_with fail
     go_region_held3 (fun z=>z.cell? ⟨b,1,none⟩=some (.pointer (some ⟨q.t,0,none⟩))/\z.cell? ⟨wr.heap.size,0,none⟩=some (.int .i64 x)/\z.cell? ⟨wr.heap.size,1,none⟩=some (.int .u32 a)/\z.cell? ⟨wr.heap.size,2,none⟩=some (.int .u32 d)) (exact HX.out _ (by first | exact HU2.out | exact (Upd.refl [] _).drew | exact Upd.refl _ _)) (first | (go_at_call 189;refine (find_spec q.t q.FT x a d T DX _ (HTA.out _ (by first | exact (Upd.refl [] _).drew | exact Upd.refl _ _)) HD.out ha hd).mono ?_;rintro e w2 ⟨c9,rfl,hc,hu⟩;have HL:=Lib.hid (HW.out.2.lookX HW.out.1 hx HD.out ha hd hc);have HU2:Hid (Upd [] (wr.alloc (.cells #[.int .i64 x,.int .u32 a,.int .u32 d] 142 (0,0))) w2):=(by first | exact hu | exact (Upd.refl [] _).drew.trans hu);clear hc hu))
     have HFW:=Lib.hid (And.intro (HFB.out.1.keep (HFB.out.2.2.trans HU2.out)) (((HFB.out.2.2.trans HU2.out).block B (aa4 HFB.out.2.1) (by simp)).trans HFB.out.2.1));clear x0 x1 x2 x3;obtain ⟨x0,x1,x2,x3⟩:=HX.out w2 HU2.out
     cases hbb:Maps.has DX (nk x a d) with
     | true =>
      rw [hbb] at HL
      have HS:Hid (ahO w x w.heap.size K ((C.take i).flatMap CrV.qs++c.qs.take j++[(a,d)]) w2):=HFW.out.1.skip (.inr (by
       rcases HL.out with ⟨_,r,_,_,r2,p,hp⟩ | ⟨hf,_⟩
       ·exact ⟨r,p,r2,hp⟩
       ·cases hf))
      clear HL hbb;go_wp2_with fail
      go_roundg (2-(j+1))
      case measure=>omega
      case rel=>exact ⟨j+1,rfl,by omega,by simp,by rw [HTK.out,<- List.append_assoc];exact HS.out,HFW.out.2⟩
     | false =>
      rw [hbb] at HL
      have HNO:Hid (¬ K.has3 x a d):=fun ⟨r,p,r2,hp,hpt,e⟩=>by
       rcases HL.out with ⟨hf,_⟩ | ⟨_,_,hno⟩
       ·cases hf
       ·exact hno r p (by simp) r2 hp hpt e
      clear HL hbb
      by_cases had:a=d
      ·have HS:Hid (ahO w x w.heap.size K ((C.take i).flatMap CrV.qs++c.qs.take j++[(a,d)]) w2):=HFW.out.1.skip (.inl had)
       subst had;go_wp2_with fail
       go_roundg (2-(j+1))
       case measure=>omega
       case rel=>exact ⟨j+1,rfl,by omega,by simp,by rw [HTK.out,<- List.append_assoc];exact HS.out,HFW.out.2⟩
      ·have hd1:((a:Int) == (d:Int))=false:=by simp;omega
       have hd2:¬ ((a:Int)=(d:Int)):=by omega
       have hd3:decide ((a:Int)=(d:Int))=false:=decide_eq_false hd2;obtain ⟨N,D,h1,h2,h3⟩:=HFW.out.1.ex;have aiQ:=aBj (v:=(x:Int)) (lo:=a) (hi:=d) (wfI (by omega) (by omega)) (wfR ha) (wfR hd);have hb9:=h3.lt
       have hsz:Maps.size D<maxLen:=by
        rw [h2.sz]
        have:N.length<=((C.take i).flatMap CrV.qs++c.qs.take j).length:=List.Nodup.length_le_of_subset h1.nd fun p hp=>((h1.iff p).1 hp).1
        have e1:∀ l:List CrV,(l.flatMap CrV.qs).length=l.length*2:=fun l=>by
         induction l with
         | nil=>rfl
         | cons e l ih=>rw [List.flatMap_cons,List.length_append,ih,List.length_cons];simp [CrV.qs];omega
        rw [List.length_append,e1,List.length_take,List.length_take] at this;unfold maxLen;omega
       obtain ⟨c0,st,W1,aqL,aYV,aYW,hu1,aN2⟩:=aJz (aev (w':=w2.drew) h3 rfl) hsz aiQ;obtain ⟨w9,aDA,ab3,hu9⟩:=aN2 _ (wrap64_wf (c0+1))
       have a1P:w.heap.size<wr.heap.size:=by obtain ⟨_,_,_,_,h⟩:=HFB.out.1.ex;exact h.lt
       have hm1:∀ {k:Nat} {v:Value},w2.cell? ⟨wr.heap.size,k,none⟩=some v->W1.cell? ⟨wr.heap.size,k,none⟩=some v:=fun {k v} hc=>((Upd.of_drew hu1).cell (World.block_lt_of_cell? _ _ hc) (by simp;omega)).trans hc
       have v1:=hm1 x1;have v2:=hm1 x2;have v3:=hm1 x3
       have HS:Hid (ahO w x w.heap.size K ((C.take i).flatMap CrV.qs++c.qs.take j++[(a,d)]) w9/\w9.heap[B]?=some (.cells #[.int .i64 x,.int .u32 c.a00,.int .u32 c.a10,.int .i64 x,.int .u32 c.a01,.int .u32 c.a11] 142 (0,0))) :=
        ⟨ahO.put HFW.out.1.up h1 h2 (by omega) (h3.tidy adh) ha hd had HNO.out (Nat.le_refl _) (amg ab3) (Upd.of_drew hu9),((Upd.of_drew hu9).block B (aa4 HFW.out.2) (by simp;omega)).trans HFW.out.2⟩
       clear h1 h2 h3 ab3 hu1 aN2 hu9 hsz aiQ had hb9 hm1;go_wp2_with fail
       go_region
       go_wp2_with fail
       go_roundg (2-(j+1))
       case measure=>omega
       case rel=>exact ⟨j+1,rfl,by omega,by simp,by rw [HTK.out,<- List.append_assoc];exact HS.out.1,HS.out.2⟩
    ·obtain rfl:j=2:=by omega
     have hji:¬ ((2:Nat):Int)<2:=by omega
     have HE:Hid (ahO w x w.heap.size K ((C.take (i+1)).flatMap CrV.qs) wr):=by
      show ahO w x w.heap.size K ((C.take (i+1)).flatMap CrV.qs) wr
      rw [List.take_add_one,HCI.out.1,List.flatMap_append]
      simpa [CrV.qs] using hF
     clear hF hB;go_wp2_with fail
     go_roundg (C.length-(i+1))
     case measure=>omega
     case rel=>exact ⟨i+1,rfl,by omega,by simp,HE.out⟩
  ·obtain rfl:i=C.length:=by omega
   have hil:¬ ((C.length:Int)<(C.length:Int)):=by omega
   rw [List.take_length] at hF;obtain ⟨N,D,h1,h2,h3⟩:=hF.ex;have HE:Hid (aJy x K C w (.returned (.int .i64 (Maps.size D:Nat))) wr):=⟨N,by rw [h2.sz],h1,hF.up⟩
   have hln:=fun ty=>h3.len Tryz.underlying272 ty
   clear hF h1 h2 h3;go_wp2_with fail;go_ret;exact HE.out
end Go.Proofs.YtdackeldhdchaaaGreat
namespace Go.Proofs.YtdackeldhdchaaaGreat
open Go.RowKit Go.Maps Go.ChangeMaps Go.WideShapes
theorem ayR {α : Type}:∀ (l:List α) (j:Nat) (a:α),l[j]?=some a->l.set j a=l
 | [],_,_,h=>by simp at h
 | b::r,0,a,h=>by simp at h;subst h;rfl
 | b::r,j+1,a,h=>by simp at h;simp [ayR r j a h]
theorem aHu {L:List abu} {r:Nat} {p:abu} (hp:L[r]?=some p) (v:Int) (lo hi:Nat) :
  ack (L.set r { p with var:=v,lo:=lo,hi:=hi })=(((ack L).set (r*5) (.int .i64 v)).set (r*5+1) (.int .u32 lo)).set (r*5+2) (.int .u32 hi):=by
 have h3:(ack L)[r*5+3]?=some (.bool p.taken):=by rw [afu _ _ _ (by omega),hp];rfl
 have h4:(ack L)[r*5+4]?=some (.int .u8 p.count):=by rw [afu _ _ _ (by omega),hp];rfl
 rw [aC5]
 show ((((((ack L).set (r*5) (.int .i64 v)).set (r*5+1) (.int .u32 lo)).set (r*5+2) (.int .u32 hi)).set (r*5+3) (.bool p.taken)).set (r*5+4) (.int .u8 p.count))=_
 rw [ayR _ (r*5+3),ayR _ (r*5+4)]
 ·rw [List.getElem?_set_ne (by omega),List.getElem?_set_ne (by omega),List.getElem?_set_ne (by omega)];exact h4
 ·rw [List.getElem?_set_ne (by omega),List.getElem?_set_ne (by omega),List.getElem?_set_ne (by omega)];exact h3
theorem aJG {w:World} {b l lc r lo hi:Nat} {v:Int} {F:List Nat} {fv:Value} {A:aaU} {p:abu} (hok:A.Ok) (h2:2<=r) (hp:A.list[r]?=some p) (h32:lo<=4294967295/\hi<=4294967295)
  (h5:w.heap[b]?=some (.cells #[.int .i64 A.places,.slice (some ⟨l,0,none⟩) A.list.length lc,fv,.int .i64 A.used] 235 (0,0)))
  (h6:w.ownsRow 0 267 5 (.slice (some ⟨l,0,none⟩) A.list.length lc) A.list.length (ack A.list)) (h7:w.ownsRow 0 77 1 fv A.free.length (ach A.free))
  (hF:F=[b,l]++fv.ownBlock.toList) (hbl:b≠l) (hbf:some b≠fv.ownBlock) (hlf:some l≠fv.ownBlock) :
  acR (((w.setCell ⟨l,r*5,none⟩ (.int .i64 v)).setCell ⟨l,r*5+1,none⟩ (.int .u32 lo)).setCell ⟨l,r*5+2,none⟩ (.int .u32 hi)) b (A.setNode r v lo hi) F /\
   Upd F w (((w.setCell ⟨l,r*5,none⟩ (.int .i64 v)).setCell ⟨l,r*5+1,none⟩ (.int .u32 lo)).setCell ⟨l,r*5+2,none⟩ (.int .u32 hi)):=by
 have hlt:=(List.getElem?_eq_some_iff.1 hp).1
 have hl:(A.setNode r v lo hi).list=A.list.set r { p with var:=v,lo:=lo,hi:=hi }:=by simp only [aaU.setNode,hp]
 have hlen:(A.setNode r v lo hi).list.length=A.list.length:=by rw [hl,List.length_set]
 have hus:(A.setNode r v lo hi).used=A.used:=by simp only [aaU.setNode]
 have hpl:(A.setNode r v lo hi).places=A.places:=by simp only [aaU.setNode]
 have hfr:(A.setNode r v lo hi).free=A.free:=by simp only [aaU.setNode]
 refine ⟨⟨⟨l,lc,fv,?_,?_,?_,hF,hbl,hbf,hlf⟩,hok.setNode h2 h32.1 h32.2⟩,?_⟩
 ·rw [hlen,hus,hpl,acb hbl,acb hbl,acb hbl];exact h5
 ·rw [hlen,hl,aHu hp]
  exact ae1 (ae1 (ae1 h6 (by omega) _) (by omega) _) (by omega) _
 ·rw [hfr]
  exact ac9 (ac9 (ac9 h7 (a:=⟨l,r*5,none⟩) hlf _) (a:=⟨l,r*5+1,none⟩) hlf _) (a:=⟨l,r*5+2,none⟩) hlf _
 ·exact (((Upd.refl F w).setCell (p:=⟨l,r*5,none⟩) (.inl (by simp [hF])) _).setCell (p:=⟨l,r*5+1,none⟩) (.inl (by simp [hF])) _).setCell (p:=⟨l,r*5+2,none⟩) (.inl (by simp [hF])) _
theorem aML (b:Nat) (F:List Nat) (r lo hi v:Nat) (A:aaU) (p:abu) (w:World) (h:acR w b A F) (amm:r<=4294967295) (h2:2<=r) (hp:A.list[r]?=some p) (hpt:p.taken=true) (h32:lo<=4294967295/\hi<=4294967295) (hv:v<64) (t1:A.tk lo=true) (t2:A.tk hi=true) :
  Calls Tryz.prog 148 #[.pointer (some ⟨b,0,none⟩),.int .u32 r,.agg #[.int .i64 v,.int .u32 lo,.int .u32 hi]] w fun e w'=>e=.returned (.int .i64 0)/\acR w' b (A.setNode r v lo hi) F/\Upd F w w':=by
 have HO:Hid (A.ownE r=0):=aaU.ownE_ok h2 (aaU.tk_iff.2 ⟨p,hp,hpt⟩)
 have HC:Hid (A.checkE v lo hi=0):=by
  show A.checkE v lo hi=0
  unfold aaU.checkE;rw [if_neg (by omega),if_neg (by simp [t1,t2])]
 have hlt:=(List.getElem?_eq_some_iff.1 hp).1;have HA:=Lib.hid h;have HP:=Lib.hid (And.intro hp h.ok);clear h hp hpt t1 t2
 go_enter Tryz.func148,Tryz.ntmps148
 go_wp2_with fail;refine (aoS b F v lo hi A _ (HA.out.upd ((Upd.refl [] w).alloc _) (by simp)) h32.1 h32.2).mono ?_;rintro e w1 ⟨rfl,hu⟩;rw [HC.out];have HU:=Lib.hid (((Upd.refl [] w).alloc (.cells #[.int .i64 v,.int .u32 lo,.int .u32 hi] 142 (0,0))).trans hu);have hbx:=(hu.block _ (aa4 (heap_alloc_new w (.cells #[.int .i64 v,.int .u32 lo,.int .u32 hi] 142 (0,0)))) (by simp)).trans (heap_alloc_new w _);have x0:=aac (j:=0) hbx rfl;have x1:=aac (j:=1) hbx rfl;have x2:=aac (j:=2) hbx rfl;have HBX:=Lib.hid hbx;clear hu hbx;go_wp2_with fail;refine (aC6 b F r A _ (HA.out.upd HU.out (by simp)) amm).mono ?_;rintro e w2 ⟨rfl,rfl⟩;rw [HO.out];have hA1:=HA.out.upd HU.out (by simp);obtain ⟨l,lc,fv,h5,h6,h7,hF',hbl,hbf,hlf⟩:=hA1.cells;have hc1:w1.cell? ⟨b,1,none⟩=some (.slice (some ⟨l,0,none⟩) A.list.length lc):=aac h5 rfl;obtain ⟨g0,g1,g2,_,_,z0,z1,z2,_,_⟩:=awk h6 HP.out.1
 have hlx:w.heap.size≠l:=by
  have hl:=HA.out.lt l
  have:l∈F:=by rw [hF'];simp
  have:=hl this;omega
 have HE:=Lib.hid (aJG (v:=v) HP.out.2 h2 HP.out.1 h32 (w:=w1.drew) h5 (akR h6) (akR h7) hF' hbl hbf hlf)
 have hri:(r:Int)<(A.list.length:Int):=by omega
 clear h5 h6 h7 hA1 hF' hbf hlf;go_wp2_with fail
 go_region
 go_wp2_with fail;go_ret;exact ⟨rfl,HE.out.1,((HU.out.mono (by simp)).drew).trans HE.out.2⟩
theorem Mid.same {K0 K K':KV} {l x y:Nat} {R:List Nat} {D:Nat->(Nat->Bool)->Bool} (h:Mid K0 l x y R K D) (hA:K'.A=K.A) (vr:K'.vars=K.vars) (od:K'.order=K.order) (lv:K'.level=K.level) (hd:∀ r,K'.hold r=K.hold r) (tr:K'.trail=K.trail):Mid K0 l x y R K' D:=by
 have low:∀ {r},Low K0 l x K r->Low K0 l x K' r:=fun {r} hr=>hr.mono fun p hp _=>by rw [hA];exact hp
 refine ⟨by rw [vr,h.vr],by rw [od,h.od],by rw [lv,h.lv],fun r=>by rw [hd,h.hd],by rw [tr,h.tr],by rw [hA,h.pl],h.rc,h.rn,by rw [hA];exact h.old,fun r hc hr=>?_,by rw [hA];exact h.nw,by rw [hA];exact h.sem,h.dold⟩;obtain ⟨p,hp,hpt,hv,h1,h2,h3⟩:=h.cr r hc hr;exact ⟨p,by rw [hA];exact hp,hpt,hv,low h1,low h2,h3⟩
structure St (K0:KV) (l x y:Nat) (N:List (Nat × Nat)) (R:List Nat) (K:KV) (T:List DM) (P:List Nat) (D:Nat->(Nat->Bool)->Bool) (M:List (Nat × Nat)):Prop where
 mid:Mid K0 l x y R K D
 wf:K.Wf P
 ti:afg T K R
 pos:K.Pos
 cnt:ar0 K0 K x N M
theorem KV.Wf.useA {K:KV} {P:List Nat} (h:K.Wf P) {r:Nat} (ht:K.A.tk r=true):(K.useA r).Wf (r::P):=by
 unfold KV.useA;split
 ·rename_i h2;exact h.useK h2 ht
 ·exact h.pend01 (by omega)
theorem KV.Pos.useA {K:KV} {P:List Nat} (h:K.Wf P) {r:Nat} (ht:K.A.tk r=true) (hp:∀ s,2<=s->K.A.tk s=true->s≠r->0<K.use s) (hr:2<=r->0<K.use r\/True):(K.useA r).Pos:=by
 intro s h2 hs
 rw [KV.useA_A] at hs;rw [KV.useA_use K r s (fun h3=>h.tu r h3 ht)]
 by_cases e:s=r
 ·subst e;rw [if_pos ⟨rfl,h2⟩];omega
 ·have:=hp s h2 hs e;omega
theorem St.get {K0 K K':KV} {l x y r:Nat} {q:Nat × Nat} {N Q M:List (Nat × Nat)} {R P:List Nat} {T T':List DM} {D:Nat->(Nat->Bool)->Bool} (h:St K0 l x y N R K T P D M) (nb:Nb K0 l x y) (F:FrN K0 x Q N) (hq:q∈Q)
  (ha:Deep K0 l q.1) (hb:Deep K0 l q.2) (afQ:K0.A.used+N.length<=K0.A.places) (G:aDr K R x q.1 q.2 r K') (ti:afg T' K' R) :
  ∃ D' M',St K0 l x y N R (K'.useA r) T' (r::P) D' M'/\Low K0 l x (K'.useA r) r/\(∀ z,D' r z=if z x then K0.den q.2 z else K0.den q.1 z)/\(∀ s,K.A.tk s=true->∀ z,D' s z=D s z) /\
   (∀ (s:Nat) (p:abu),K.A.list[s]?=some p->p.taken=true->(K'.useA r).A.list[s]?=some p):=by
 obtain ⟨D',hm,azQ,az8,aPp,aJI⟩:=h.mid.get nb h.wf ha hb G;have ta:=h.mid.tk ha.1;have tb:=h.mid.tk hb.1;obtain ⟨hx,_⟩:=nb.facts
 have hxv:x<K.vars:=by rw [h.mid.vr];exact hx
 have hwf:K'.Wf P:=by
  rcases G with ⟨_,_,rfl⟩ | ⟨_,_,rfl⟩ | ⟨_,Tk,_⟩
  ·exact h.wf
  ·exact h.wf
  ·exact Tk.wf h.wf ta tb ⟨by omega,by omega⟩
 have aAe:∀ s,2<=s->K'.A.tk s=true->s≠r->0<K'.use s:=fun s h2 hs hne=>by
  rcases G with ⟨_,_,rfl⟩ | ⟨_,_,rfl⟩ | ⟨_,Tk,_⟩
  ·exact h.pos s h2 hs
  ·exact h.pos s h2 hs
  ·rw [Tk.fr.tk] at hs
   simp [hne] at hs
   have:=h.pos s h2 hs
   rw [Tk.us,if_neg hne];omega
 have aPr:∃ M',ar0 K0 K' x N M':=by
  rcases G with ⟨_,_,rfl⟩ | ⟨_,_,rfl⟩ | ⟨hne,Tk,hno⟩
  ·exact ⟨M,h.cnt⟩
  ·exact ⟨M,h.cnt⟩
  ·have hn3:¬ K.has3 x q.1 q.2:=fun ⟨s,p,h2,hp,hpt,hv,e1,e2⟩=>hno s p (h.mid.has3_not nb hp (by rw [e1];exact ha) (by rw [e2];exact hb)) h2 hp hpt ⟨hv,e1,e2⟩
   obtain ⟨h1,h2,_⟩:=h.cnt.room F h.mid nb ha hb hq hne hn3 afQ;exact ⟨_,h.cnt.took Tk h1 h2⟩
 obtain ⟨M',aPr⟩:=aPr;have hA:=KV.useA_A K' r;refine ⟨D',M',⟨hm.same hA (KV.useA_vars _ _) (KV.useA_order _ _) (KV.useA_level _ _) (KV.useA_hold _ _) (KV.useA_trail _ _),hwf.useA azQ.1,ti.same hA (KV.useA_vars _ _),KV.Pos.useA hwf azQ.1 aAe fun _=>.inr trivial,aPr.same (by rw [hA]) fun a b h3=>by unfold KV.has3 at *;rw [hA];exact h3⟩,azQ.mono fun p hp _=>by rw [hA];exact hp,az8,aPp,fun s p hp hpt=>by rw [hA];exact aJI s p hp hpt⟩
theorem St.turn {K0 K:KV} {l x y lo hi a00 a01 a10 a11 c:Nat} {p:abu} {N Q M:List (Nat × Nat)} {R P:List Nat} {T:List DM} {DY:DM} {D:Nat->(Nat->Bool)->Bool} (h:St K0 l x y N (c::R) K T (hi::lo::P) D M) (nb:Nb K0 l x y) (F:FrN K0 x Q N) (hQ:∀ q,q∈Q->Deep K0 l q.1/\Deep K0 l q.2)
  (F4:aFE K0 l x y c p a00 a01 a10 a11) (hlo:Low K0 l x K lo) (hhi:Low K0 l x K hi) (dlo:∀ z,D lo z=if z x then K0.den a10 z else K0.den a00 z) (dhi:∀ z,D hi z=if z x then K0.den a11 z else K0.den a01 z)
  (h32:lo<=4294967295/\hi<=4294967295) (hD:T[y]?=some DY) :
  St K0 l x y N R (K.turnN c y lo hi) (T.set y (DY.put (nk y lo hi) (.lit (.int .u32 c)))) (p.lo::p.hi::P) D M:=by
 obtain ⟨_,hy,_⟩:=nb.facts;obtain ⟨hm,hne,hp⟩:=h.mid.turn nb F4 hlo hhi dlo dhi
 have hyv:y<K.vars:=by rw [h.mid.vr];exact hy
 have hc2:2<=c:=(h.mid.rc c (by simp)).1;have hcR:=(List.nodup_cons.1 h.mid.rn).1;have hwf:K.Wf (lo::hi::P):=h.wf.perm (List.Perm.swap _ _ _)
 have at_:=fun s=>amG (A:=K.A) (v:=(y:Int)) (lo:=lo) (hi:=hi) hp s
 refine ⟨hm,hwf.turnN hc2 hp F4.tk hyv h32,h.ti.turnN h.wf hcR hc2 hp F4.tk hyv h32 hD fun s q h2 hq hqt hs=>h.mid.turn_new nb F4 dlo dhi h2 hq hqt hs,fun s h2 hs=>?_,h.cnt.turnN h.mid nb F hQ⟩
 have hs':K.A.tk s=true:=by
  have e:(K.A.setNode c (y:Int) lo hi).tk s=true:=hs;unfold aaU.tk at e ⊢;rw [at_] at e
  by_cases e1:s=c
  ·subst e1;rw [hp];exact F4.tk
  ·rw [if_neg e1] at e;exact e
 exact h.pos s h2 hs'
theorem an9 {α : Type} {C:List α} {i:Nat} {c:α} (h:C[i]?=some c):C.drop i=c::C.drop (i+1)/\C.take (i+1)=C.take i++[c]:=by
 obtain ⟨hl,e⟩:=List.getElem?_eq_some_iff.1 h;exact ⟨by rw [List.drop_eq_getElem_cons hl,e],by rw [List.take_add_one,h];rfl⟩
theorem FrN.exists (K:KV) (x:Nat):∀ Q:List (Nat × Nat),∃ N,FrN K x Q N:=by
 intro Q
 have key:∀ n,∃ N,FrN K x (Q.take n) N:=by
  intro n
  induction n with
  | zero=>exact ⟨[],by simpa using FrN.nil K x⟩
  | succ n ih =>
   obtain ⟨N,hN⟩:=ih;rw [List.take_add_one]
   cases hq:Q[n]? with
   | none=>exact ⟨N,by simpa using hN⟩
   | some q =>
    show ∃ N,FrN K x (Q.take n++[q]) N
    by_cases h1:q.1=q.2
    ·exact ⟨N,hN.skip (.inl h1)⟩
    ·by_cases h2:K.has3 x q.1 q.2
     ·exact ⟨N,hN.skip (.inr (.inl h2))⟩
     ·by_cases h3:q∈N
      ·exact ⟨N,hN.skip (.inr (.inr h3))⟩
      ·exact ⟨_,hN.add h1 h2 h3⟩
 obtain ⟨N,hN⟩:=key Q.length;exact ⟨N,by simpa using hN⟩
theorem FrN.len_eq {K:KV} {x:Nat} {Q N N':List (Nat × Nat)} (h:FrN K x Q N) (h':FrN K x Q N'):N.length=N'.length :=
 Nat.le_antisymm (List.Nodup.length_le_of_subset h.nd fun q hq=>(h'.iff q).2 ((h.iff q).1 hq)) (List.Nodup.length_le_of_subset h'.nd fun q hq=>(h.iff q).2 ((h'.iff q).1 hq))
structure aCs (K:KV) (l:Nat) (K':KV):Prop where
 vr:K'.vars=K.vars
 pl:K'.A.places=K.A.places
 od:K'.order=(K.order.set l (K.order.getD (l+1) 0)).set (l+1) (K.order.getD l 0)
 hd:∀ r,K'.hold r=K.hold r
 tr:K'.trail=K.trail
 den:∀ r,K.A.tk r=true->K'.A.tk r=true->∀ z,K'.den r z=K.den r z
 uq:∀ r s,K.A.tk r=true->K'.A.tk s=true->(∀ z,K.den r z=K'.den s z)->r=s
structure aCt (b l:Nat) (K:KV) (q:abM) (w:World) (e:Ending) (w':World):Prop where
  ex:∃ (C:List CrV) (N:List (Nat × Nat)),aiH K l (K.order.getD l 0) (K.order.getD (l + 1) 0) C∧FrN K (K.order.getD l 0) (C.flatMap CrV.qs) N ∧
    ((e=.returned (.bool false)∧K.A.places < K.A.used + N.length∧Upd [] w w') ∨
     (e=.returned (.bool true)∧K.A.used + N.length≤K.A.places∧∃ (K':KV) (T':List DM) (q':abM),aCs K l K'∧(C=[]→K'=K.swapK l)∧afF w' b K' T' q'∧Upd (q.all b) w w'∧Sub (q.all b) w (q'.all b)))
structure aJJ (l x y:Nat) (K:KV) (w:World) (e:Ending) (w':World):Prop where
 ex:∃ (C:List CrV) (la:Option Addr) (lc:Nat),e=.returned (.slice la C.length lc)/\aiH K l x y C/\(∀ c,c∈C->c.R32)/\w'.ownsRow w.heap.size 226 8 (.slice la C.length lc) C.length (amN x C)/\Upd [] w w'
theorem aiH.len {K:KV} {l x y:Nat} {C:List CrV} (h:aiH K l x y C) (hk:K.Wf []):C.length<=1048576:=by
 have h1:(C.map CrV.r).length<=(List.range 1048576).length:=List.Nodup.length_le_of_subset h.nd fun r hr=>by
  have ht:=Nb.cross_tk ((h.iff r).1 hr);have h2:=aaU.tk_lt ht;have h3:=hk.ok.lp;have h4:=hk.ok.pm;exact List.mem_range.2 (by omega)
 simpa using h1
end Go.Proofs.YtdackeldhdchaaaGreat
