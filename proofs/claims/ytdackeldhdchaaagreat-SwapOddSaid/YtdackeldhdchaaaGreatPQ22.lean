import Derived.Test.YtdackeldhdchaaaGreatPQ21
import Derived.DeepKeys5
import Derived.Maps.Keyed
import Derived.Deep.LoopGhost
set_option maxRecDepth 100000
set_option maxHeartbeats 800000
namespace Go.Proofs.YtdackeldhdchaaaGreat
open Go.RowKit Go.Maps Go.ChangeMaps Go.WideShapes
def nk (v:Int) (lo hi:Nat):Lit:=.string (keyBytes [.int .i64 v,.int .u32 lo,.int .u32 hi])
theorem laidOut:laidOutB Tryz.prog=true:=by kernel_rfl
theorem adh:Keyed Tryz.prog 142:=Keyed.of_law (deep_law_gate laidOut (of_decide_eq_true (by kernel_rfl)) (of_decide_eq_true (by kernel_rfl)) (by kernel_rfl) (by kernel_rfl))
theorem ayT {t:TypeId} {q:IntKind} (hu:Tryz.prog.underlying t=some (.int q)) (m:Nat) {n:Int} (h:(Lit.int q n).wf=true):Tryz.prog.keyLits (m+1) t [.int q n]=some [.int q n]:=by
 unfold Program.keyLits;rw [hu]
 simp [h]
theorem aBj {v:Int} {lo hi:Nat} (hv:(Lit.int .i64 v).wf=true) (h1:(Lit.int .u32 lo).wf=true) (h2:(Lit.int .u32 hi).wf=true) :
  keyOf Tryz.prog 142 (.agg #[.int .i64 v,.int .u32 lo,.int .u32 hi])=some (nk v lo hi):=by
 have hk:Tryz.prog.keyType 142=true:=by kernel_rfl
 obtain ⟨m,hm⟩ : ∃ m,Tryz.prog.types.size=m+1:=⟨Tryz.prog.types.size-1,by have:0<Tryz.prog.types.size:=of_decide_eq_true (by kernel_rfl);omega⟩
 have c3:Tryz.prog.cellsOf 3=1:=by kernel_rfl
 have c40:Tryz.prog.cellsOf 77=1:=by kernel_rfl
 have c44:Tryz.prog.cellsOf 142=3:=by kernel_rfl
 have kl:Tryz.prog.keyLits (m+2) 142 [.int .i64 v,.int .u32 lo,.int .u32 hi]=some [.int .i64 v,.int .u32 lo,.int .u32 hi]:=by
  unfold Program.keyLits;rw [Tryz.underlying142]
  simp only [c44]
  simp [c3,c40,ayT Tryz.underlying3 m hv,ayT Tryz.underlying77 m h1,ayT Tryz.underlying77 m h2]
 have hf:Value.formed Tryz.prog 142 (.agg #[.int .i64 v,.int .u32 lo,.int .u32 hi])=true:=by
  simp [Value.formed,Tryz.underlying142,c44]
 rw [keyOf,Tryz.underlying142]
 show (if (Tryz.prog.keyType 142&&Value.formed Tryz.prog 142 (.agg #[.int .i64 v,.int .u32 lo,.int .u32 hi]))=true then Option.map (fun ls=>Lit.string (keyBytes ls)) (Tryz.prog.keyLits (Tryz.prog.types.size+1) 142 [.int .i64 v,.int .u32 lo,.int .u32 hi]) else none)=_
 rw [hk,hf,hm];rw [Bool.and_self,if_pos rfl]
 show Option.map (fun ls=>Lit.string (keyBytes ls)) (Tryz.prog.keyLits (m+2) 142 [.int .i64 v,.int .u32 lo,.int .u32 hi])=_
 rw [kl];rfl
theorem atK {v v':Int} {lo hi lo' hi':Nat} (hv:(Lit.int .i64 v).wf=true) (h1:(Lit.int .u32 lo).wf=true) (h2:(Lit.int .u32 hi).wf=true)
  (hv':(Lit.int .i64 v').wf=true) (h1':(Lit.int .u32 lo').wf=true) (h2':(Lit.int .u32 hi').wf=true) (e:nk v lo hi=nk v' lo' hi'):v=v'/\lo=lo'/\hi=hi':=by
 have h:=adh.inj (aBj hv h1 h2) (by rw [e];exact aBj hv' h1' h2')
 simp only [Value.agg.injEq,Array.mk.injEq,List.cons.injEq,Value.int.injEq,true_and,and_true] at h
 omega
theorem ala (v:Int) (lo hi:Nat):WideAt.IsKeyLit (nk v lo hi):=trivial
theorem wfI {n:Int} (h1:-9223372036854775808<=n) (h2:n<=9223372036854775807):(Lit.int .i64 n).wf=true:=WalkArith.wf_i64 ⟨h1,h2⟩
theorem wfR {n:Nat} (h:n<=4294967295):(Lit.int .u32 n).wf=true:=WalkArith.wf_u32 ⟨by omega,by omega⟩
theorem aCv (w:World):(zeroValue 77).run Tryz.prog w=.ok (.int .u32 0) w:=by kernel_rfl
structure afl (w:World) (tb:Nat) (T:List DM) (F:List Nat):Prop where
 ex:∃ (g cap:Nat) (mbs:List Nat),w.heap[tb]?=some (.cells #[.slice (some ⟨g,0,none⟩) T.length cap] 218 (0,0)) /\
  w.ownsRow 0 219 1 (.slice (some ⟨g,0,none⟩) T.length cap) T.length (mbs.map fun m=>Value.map (some m))/\mbs.length=T.length /\
  (∀ (v:Nat) (D:DM) (m:Nat),T[v]?=some D->mbs[v]?=some m->w.ownsMap Tryz.prog 142 (plainElem Tryz.prog 77) m (Maps.size D) D) /\
  F=tb::g::mbs/\tb≠g/\mbs.Nodup/\tb∉mbs/\g∉mbs
 bd:T.length<=64
theorem afl.lt {w:World} {tb:Nat} {T:List DM} {F:List Nat} (h:afl w tb T F):∀ k,k∈F->k<w.heap.size:=by
 obtain ⟨g,cap,mbs,h1,h2,h3,h4,rfl,_⟩:=h.ex
 intro k hk
 simp at hk
 rcases hk with rfl | rfl | hk
 ·exact aa4 h1
 ·exact (h2.lt _ rfl).2
 ·obtain ⟨v,hv⟩:=List.mem_iff_getElem?.1 hk
  have hvl:=(List.getElem?_eq_some_iff.1 hv).1;exact (h4 v (T[v]'(by omega)) k (List.getElem?_eq_getElem (by omega)) hv).lt
theorem afl.keep {w w':World} {tb:Nat} {T:List DM} {F:List Nat} (h:afl w tb T F) (hk:∀ k,k∈F->w'.heap[k]?=w.heap[k]?):afl w' tb T F:=by
 obtain ⟨g,cap,mbs,h1,h2,h3,h4,rfl,hr⟩:=h.ex;refine ⟨⟨g,cap,mbs,by rw [hk tb (by simp)];exact h1,aaX h2 (fun k hk'=>by cases hk';exact hk _ (by simp)),h3,fun v D m hD hm=>aev (h4 v D m hD hm) (hk m (by simp [List.mem_of_getElem? hm])),rfl,hr⟩,h.bd⟩
theorem afl.upd {w w':World} {tb:Nat} {T:List DM} {F S:List Nat} (h:afl w tb T F) (u:Upd S w w') (hd:∀ k,k∈F->k∉S):afl w' tb T F :=
 h.keep fun k hk=>u.block k (h.lt k hk) (hd k hk)
theorem aoa (tb:Nat) (F:List Nat) (v:Int) (T:List DM) (w:World) (h:afl w tb T F) (h0:0<=v) (h1:v<T.length) :
  Calls Tryz.prog 190 #[.pointer (some ⟨tb,0,none⟩),.int .i64 v] w fun e w'=>e=.returned (.int .i64 0)/\w=w':=by
 obtain ⟨g,cap,mbs,e1,_⟩:=h.ex;have hbd:=h.bd;have hc0:w.cell? ⟨tb,0,none⟩=some (.slice (some ⟨g,0,none⟩) T.length cap):=aac e1 rfl
 have hd0:decide (v<0)=false:=by simp;omega
 have hd1:decide ((T.length:Int)<=v)=false:=by simp;omega
 clear e1 h
 go_enter Tryz.func190,Tryz.ntmps190
 go_wp2_with fail;go_ret;exact ⟨rfl,rfl⟩
theorem afl.cells {w:World} {tb:Nat} {T:List DM} {F:List Nat} (h:afl w tb T F) {v:Nat} {D:DM} (hv:T[v]?=some D) :
  ∃ g cap m,tb∈F/\g∈F/\m∈F/\w.cell? ⟨tb,0,none⟩=some (.slice (some ⟨g,0,none⟩) T.length cap)/\w.cell? ⟨g,v,none⟩=some (.map (some m)) /\
   w.ownsMap Tryz.prog 142 (plainElem Tryz.prog 77) m (Maps.size D) D:=by
 obtain ⟨g,cap,mbs,h1,h2,h3,h4,rfl,_⟩:=h.ex;have hvl:=(List.getElem?_eq_some_iff.1 hv).1;have hm:mbs[v]?=some (mbs[v]'(by omega)):=List.getElem?_eq_getElem (by omega);exact ⟨g,cap,mbs[v]'(by omega),by simp,by simp,by simp [List.mem_of_getElem? hm],aac h1 rfl,abf h2 (by simp [hm]),h4 v D _ hv hm⟩
theorem afl.put {w w':World} {tb:Nat} {T:List DM} {F:List Nat} (h:afl w tb T F) {v g cap m n:Nat} {D D':DM} (hv:T[v]?=some D)
  (hg:w.cell? ⟨tb,0,none⟩=some (.slice (some ⟨g,0,none⟩) T.length cap)) (hm:w.cell? ⟨g,v,none⟩=some (.map (some m)))
  (hk:∀ k,k∈F->k≠m->w'.heap[k]?=w.heap[k]?) (ho:w'.ownsMap Tryz.prog 142 (plainElem Tryz.prog 77) m n D'):afl w' tb (T.set v D') F:=by
 obtain ⟨g',aMF,mbs,h1,h2,h3,h4,rfl,h5,h6,h7,h8⟩:=h.ex;have hvl:=(List.getElem?_eq_some_iff.1 hv).1;have e1:some (Value.slice (some ⟨g',0,none⟩) T.length aMF)=some (Value.slice (some ⟨g,0,none⟩) T.length cap):=(aac (j:=0) h1 rfl).symm.trans hg
 simp at e1
 obtain ⟨rfl,rfl⟩:=e1;have hmv:mbs[v]?=some (mbs[v]'(by omega)):=List.getElem?_eq_getElem (by omega);have e2:some (Value.map (some (mbs[v]'(by omega))))=some (Value.map (some m)):=(abf h2 (by simp [hmv])).symm.trans hm
 simp at e2
 have hmm:m∈mbs:=by rw [<- e2];exact List.getElem_mem _
 have hm1:tb≠m:=by rintro rfl;exact h7 hmm
 have hm2:g'≠m:=by rintro rfl;exact h8 hmm
 refine ⟨⟨g',aMF,mbs,?_,?_,by simpa using h3,?_,rfl,h5,h6,h7,h8⟩,by simpa using h.bd⟩
 ·rw [hk tb (by simp) hm1,List.length_set];exact h1
 ·rw [List.length_set]
  refine aaX h2 ?_
  rintro k hk';cases hk'
  exact hk _ (by simp) hm2
 ·intro u D2 m2 hD aHv
  by_cases e:u=v
  ·subst e
   rw [List.getElem?_set_self hvl] at hD;cases hD
   rw [hmv] at aHv;cases aHv
   rw [e2];exact amg ho
  ·rw [List.getElem?_set_ne (Ne.symm e)] at hD
   have hne:m2≠m:=by
    rintro rfl
    have:mbs[v]?=some m2:=by rw [hmv,e2]
    exact e ((List.getElem?_inj (List.getElem?_eq_some_iff.1 aHv).1 h6).1 (aHv.trans this.symm))
   exact aev (h4 u D2 m2 hD aHv) (hk m2 (by simp [List.mem_of_getElem? aHv]) hne)
theorem find_spec (tb:Nat) (F:List Nat) (v lo hi:Nat) (T:List DM) (D:DM) (w:World) (h:afl w tb T F) (hv:T[v]?=some D) (h1:lo<=4294967295) (h2:hi<=4294967295) :
  Calls Tryz.prog 189 #[.pointer (some ⟨tb,0,none⟩),.agg #[.int .i64 v,.int .u32 lo,.int .u32 hi]] w fun e w' =>
   ∃ c:Int,e=.returned (.tuple #[.int .u32 c,.bool (Maps.has D (nk v lo hi))])/\D.atKey (nk v lo hi) (.lit (.int .u32 0))=.lit (.int .u32 c)/\Upd [] w w':=by
 have hvl:=(List.getElem?_eq_some_iff.1 hv).1;have hbd:=h.bd;obtain ⟨g,cap,m,hf1,hf2,hf3,hc0,hc1,ho⟩:=h.cells hv;have hl:=h.lt;have hbt:=hl _ hf1;have hbg:=hl _ hf2;have hbm:=hl _ hf3;have aiQ:=aBj (v:=(v:Int)) (lo:=lo) (hi:=hi) (wfI (by omega) (by omega)) (wfR h1) (wfR h2);have HT:=Lib.hid h;have HO:=Lib.hid ho;have HK:=Lib.hid aiQ;clear h ho aiQ hl hv
 go_enter Tryz.func189,Tryz.ntmps189
 go_wp2_with fail;refine (aoa tb F v T _ (HT.out.upd ((Upd.refl [] w).alloc _) (by simp)) (by omega) (by omega)).mono ?_;rintro e w1 ⟨rfl,rfl⟩;obtain ⟨x,ps,aqL,hx⟩:=(aev (w':=(w.alloc (.cells #[.int .i64 v,.int .u32 lo,.int .u32 hi] 142 (0,0))).drew) HO.out (heap_alloc_old w _ hbm)).look_ok adh Tryz.underlying219 (aCv _) (plainElem_int (H:=Unit) Tryz.underlying77 (wfR (n:=0) (by omega))) HK.out;obtain ⟨c,rfl,hat,hwc⟩:=plainElem_int_inv Tryz.underlying77 hx
 have aSe:D.atKey (nk v lo hi) (.lit (.int .u32 0))=.lit (.int .u32 c):=by simpa using congrArg Prod.fst hat
 have HAT:=Lib.hid aSe;clear hx hat hwc aSe;go_wp2_with fail
 go_region
 go_wp2_with fail;go_ret2;exact ⟨c,rfl,HAT.out,((Upd.refl [] w).alloc _).drew⟩
theorem ayV {w w1 w2:World} {tb:Nat} {T:List DM} {F:List Nat} (h:afl w tb T F) {v g cap m n:Nat} {D D':DM} (hv:T[v]?=some D)
  (hg:w.cell? ⟨tb,0,none⟩=some (.slice (some ⟨g,0,none⟩) T.length cap)) (hm:w.cell? ⟨g,v,none⟩=some (.map (some m))) (hmF:m∈F)
  (hu:Upd [] w w1) (ht:w1.mapTurned w2 m) (ho:w2.ownsMap Tryz.prog 142 (plainElem Tryz.prog 77) m n D'):afl w2 tb (T.set v D') F/\Upd F w w2:=by
 refine ⟨h.put hv hg hm (fun k hk hkm=>?_) ho,(hu.mono (by simp)).then (ajV ht) (by intro x hx;simp at hx;subst hx;exact .inl hmF)⟩;rw [aG3 ht hkm];exact hu.block k (h.lt k hk) (by simp)
theorem aDC (tb:Nat) (F:List Nat) (v lo hi r:Nat) (T:List DM) (D:DM) (w:World) (h:afl w tb T F) (hv:T[v]?=some D) (h1:lo<=4294967295) (h2:hi<=4294967295) (hr:r<=4294967295)
  (hno:Maps.has D (nk v lo hi)=false) (hsz:Maps.size D<maxLen) :
  Calls Tryz.prog 149 #[.pointer (some ⟨tb,0,none⟩),.agg #[.int .i64 v,.int .u32 lo,.int .u32 hi],.int .u32 r] w fun e w' =>
   e=.returned (.int .i64 0)/\afl w' tb (T.set v (D.put (nk v lo hi) (.lit (.int .u32 r)))) F/\Upd F w w':=by
 have hvl:=(List.getElem?_eq_some_iff.1 hv).1;have hbd:=h.bd;obtain ⟨g,cap,m,hf1,hf2,hf3,hc0,hc1,ho⟩:=h.cells hv;have hl:=h.lt;have hbt:=hl _ hf1;have hbg:=hl _ hf2;have hbm:=hl _ hf3;have aiQ:=aBj (v:=(v:Int)) (lo:=lo) (hi:=hi) (wfI (by omega) (by omega)) (wfR h1) (wfR h2);have HT:=Lib.hid h;have HO:=Lib.hid ho;have HK:=Lib.hid aiQ;have HV:=Lib.hid hv;have HN:=Lib.hid hno;clear h ho aiQ hl hv hno
 go_enter Tryz.func149,Tryz.ntmps149
 go_wp2_with fail;refine (aoa tb F v T _ (HT.out.upd ((Upd.refl [] w).alloc _) (by simp)) (by omega) (by omega)).mono ?_;rintro e w1 ⟨rfl,rfl⟩;obtain ⟨x,ps,aqL,hx⟩:=(aev (w':=(w.alloc (.cells #[.int .i64 v,.int .u32 lo,.int .u32 hi] 142 (0,0))).drew) HO.out (heap_alloc_old w _ hbm)).look_ok adh Tryz.underlying219 (aCv _) (plainElem_int (H:=Unit) Tryz.underlying77 (wfR (n:=0) (by omega))) HK.out;rw [HN.out] at aqL;obtain ⟨c,rfl,hat,hwc⟩:=plainElem_int_inv Tryz.underlying77 hx;clear hx hat hwc;obtain ⟨w9,aDA,ab3,awq⟩:=(aev (w':=(w.alloc (.cells #[.int .i64 v,.int .u32 lo,.int .u32 hi] 142 (0,0))).drew.drew) HO.out (heap_alloc_old w _ hbm)).store adh Tryz.underlying219 hsz HK.out (plainElem_int (H:=Unit) Tryz.underlying77 (wfR hr));have HE:=Lib.hid (ayV HT.out HV.out hc0 hc1 hf3 (((Upd.refl [] w).alloc _).drew.drew) awq ab3);clear awq ab3;go_wp2_with fail
 go_region
 go_wp2_with fail
 go_region
 go_wp2_with fail;go_ret;exact ⟨rfl,HE.out⟩
theorem aJW {P:Program} {w:World} {ops:Array Oper} {o:Oper} {a:Act} {K:Act->World->Prop} {Q:Exit->Act->World->Prop} {E:Prop} (hgd:o.guard=none) (m x:Operand) (t k:TypeId)
  (hop:o.op=.call { callee:=.builtin .delete,args:=#[m,x],argTypes:=#[t,k] }) {mv xv v:Value} {w':World} (hm:a.eval m=mv) (hx:a.eval x=xv)
  (aqL:(Builtin.delete_ #[t,k] o.type #[mv,xv]).run P w=.ok v w') (h:K (a.put o.dst v) w') :
  if Region.wanted o (yielded ops a.tmps)=true then Oper.wp P o a w K Q else E:=by
 have hw:Region.wanted o (yielded ops a.tmps)=true:=by simp [Region.wanted,hgd]
 rw [if_pos hw];unfold Oper.wp
 simp [execOp,hop,resolve,invoke,builtin,hm,hx,aqL,Result.andThen]
 exact h
theorem aDI (tb:Nat) (F:List Nat) (v lo hi:Nat) (T:List DM) (D:DM) (w:World) (h:afl w tb T F) (hv:T[v]?=some D) (h1:lo<=4294967295) (h2:hi<=4294967295)
  (hyes:Maps.has D (nk v lo hi)=true) :
  Calls Tryz.prog 145 #[.pointer (some ⟨tb,0,none⟩),.agg #[.int .i64 v,.int .u32 lo,.int .u32 hi]] w fun e w' =>
   e=.returned (.int .i64 0)/\afl w' tb (T.set v (D.del (nk v lo hi))) F/\Upd F w w':=by
 have hvl:=(List.getElem?_eq_some_iff.1 hv).1;have hbd:=h.bd;obtain ⟨g,cap,m,hf1,hf2,hf3,hc0,hc1,ho⟩:=h.cells hv;have hl:=h.lt;have hbt:=hl _ hf1;have hbg:=hl _ hf2;have hbm:=hl _ hf3;have aiQ:=aBj (v:=(v:Int)) (lo:=lo) (hi:=hi) (wfI (by omega) (by omega)) (wfR h1) (wfR h2);have HT:=Lib.hid h;have HO:=Lib.hid ho;have HK:=Lib.hid aiQ;have HV:=Lib.hid hv;have HN:=Lib.hid hyes;clear h ho aiQ hl hv hyes
 go_enter Tryz.func145,Tryz.ntmps145
 go_wp2_with fail;refine (aoa tb F v T _ (HT.out.upd ((Upd.refl [] w).alloc _) (by simp)) (by omega) (by omega)).mono ?_;rintro e w1 ⟨rfl,rfl⟩;obtain ⟨x,ps,aqL,hx⟩:=(aev (w':=(w.alloc (.cells #[.int .i64 v,.int .u32 lo,.int .u32 hi] 142 (0,0))).drew) HO.out (heap_alloc_old w _ hbm)).look_ok adh Tryz.underlying219 (aCv _) (plainElem_int (H:=Unit) Tryz.underlying77 (wfR (n:=0) (by omega))) HK.out;rw [HN.out] at aqL;obtain ⟨c,rfl,hat,hwc⟩:=plainElem_int_inv Tryz.underlying77 hx;clear hx hat hwc;obtain ⟨w9,aDA,ab3,awq⟩:=(aev (w':=(w.alloc (.cells #[.int .i64 v,.int .u32 lo,.int .u32 hi] 142 (0,0))).drew.drew) HO.out (heap_alloc_old w _ hbm)).drop adh Tryz.underlying219 HK.out 0;have aWf:=Lib.hid aDA;have HE:=Lib.hid (ayV HT.out HV.out hc0 hc1 hf3 (((Upd.refl [] w).alloc _).drew.drew) awq ab3);clear awq ab3 aDA;go_wp2_with fail
 go_region
 go_wp2_with fail
 go_region_law (refine aJW rfl (.tmp 37) (.tmp 38) 219 142 rfl rfl rfl aWf.out ?_)
 all_goals
  go_wp2_with fail;go_ret;exact ⟨rfl,HE.out⟩
def acf (l:List Nat):List Value:=l.map fun (n:Nat)=>Value.int .i64 n
theorem Tryz.infoIntI:(Tryz.prog.info? 3).map (fun i=>(i.zero,i.size,i.bytes))=some (some (.int .i64 0),1,8):=by kernel_rfl
theorem Tryz.infoMap:(Tryz.prog.info? 219).map (fun i=>(i.zero,i.size,i.bytes))=some (some (.map none),1,8):=by kernel_rfl
def ap3 (n i:Nat):List Value:=acf (List.range i)++List.replicate (n-i) (.int .i64 0)
theorem aHw {n i:Nat} (h:i<n):(ap3 n i).set i (.int .i64 i)=ap3 n (i+1):=by
 unfold ap3 acf;rw [List.set_append_right _ _ (by simp)]
 simp only [List.length_map,List.length_range,Nat.sub_self,List.range_succ,List.map_append,List.append_assoc]
 congr 1
 rw [show n-i=(n-(i+1))+1 by omega,List.replicate_succ];rfl
theorem aFJ (n:Nat):(madeCells #[Value.int .i64 0] n).toList=ap3 n 0:=by
 apply List.ext_getElem?
 intro i
 by_cases hi:i<n
 ·simp [ap3,acf,madeCells,hi,Nat.mod_one]
 ·simp [ap3,acf,madeCells,hi]
theorem aAg (n:Nat) (w:World) (hn:n<=1048576) :
  Calls Tryz.prog 140 #[.int .i64 n] w fun e w'=>∃ g,e=.returned (.slice (some ⟨g,0,none⟩) n n)/\w'.ownsRow w.heap.size 3 1 (.slice (some ⟨g,0,none⟩) n n) n (acf (List.range n))/\Upd [] w w':=by
 obtain ⟨i2,hi2,hz2,hs2,hb2⟩:=info_parts Tryz.infoIntI;have HI:=Lib.hid (And.intro hi2 (And.intro hz2 (And.intro hs2 hb2)));clear hi2 hz2 hs2 hb2
 go_enter Tryz.func140,Tryz.ntmps140
 go_wp2_with (refine wpList_make_full _ rfl (.tmp 5) (.tmp 5) 23 rfl w.heap.size 3 i2 (.int .i64 0) 1 Tryz.underlying23 HI.out.1 HI.out.2.1 HI.out.2.2.1 .i64 .i64 _ _ n rfl rfl rfl rfl (by rw [HI.out.2.2.2];omega) (by unfold maxLen;omega) (Nat.le_refl _) ?_)
 obtain ⟨g,hg⟩ : ∃ g,w.heap.size=g:=⟨_,rfl⟩;rw [hg]
 intro w1 ho hgr
 have HO:Hid (w1.ownsRow g 3 1 (.slice (some ⟨g,0,none⟩) n n) n (ap3 n 0)):=by rw [<- aFJ];exact ho
 have HU:Hid (Upd [] w w1):=(Upd.refl [] w).grown hgr (by simp);have HG:=Lib.hid hg;clear ho hgr hg;go_wp2_with fail
 go_loopg [8] n (fun g2 s8 wr=>∃ i:Nat,n-i=g2/\i<=n/\s8=.int .i64 i/\wr.ownsRow g 3 1 (.slice (some ⟨g,0,none⟩) n n) n (ap3 n i)/\Upd [] w wr)
 case atStart=>exact ⟨0,by omega,by omega,rfl,HO.out,HU.out⟩
 case round =>
  obtain ⟨i,rfl,hin,rfl,ho,hu⟩:=hrel
  by_cases hlt:i<n
  ·have hc:wr.cell? ⟨g,i,none⟩=some (.int .i64 0):=abf ho (by rw [ap3,List.getElem?_append_right (by simp [acf])];simp [acf,List.getElem?_replicate];omega)
   have hf:=aci ho i
   have HS:Hid ((wr.setCell ⟨g,i,none⟩ (.int .i64 i)).ownsRow g 3 1 (.slice (some ⟨g,0,none⟩) n n) n (ap3 n (i+1))):=by
    rw [<- aHw hlt];exact ae1 ho (by omega) _
   have HU2:Hid (Upd [] w (wr.setCell ⟨g,i,none⟩ (.int .i64 i))):=hu.setCell (.inr (by rw [HG.out];exact Nat.le_refl _)) _;clear ho hu;go_wp2_with fail
   go_roundg (n-(i+1))
   case measure=>omega
   case rel=>exact ⟨i+1,rfl,by omega,by go_num,HS.out,HU2.out⟩
  ·have hd:decide (i<n)=false:=by simpa using hlt
   have hi:i=n:=by omega
   have HE:Hid (wr.ownsRow w.heap.size 3 1 (.slice (some ⟨g,0,none⟩) n n) n (acf (List.range n))/\Upd [] w wr):=by
    subst hi;rw [HG.out];refine ⟨?_,hu⟩
    have:ap3 i i=acf (List.range i):=by simp [ap3]
    rw [<- this];exact ho
   clear ho hu hi;go_wp2_with fail;go_ret;exact ⟨g,rfl,HE.out⟩
theorem aJX (n:Nat) (w:World) (hn:n<=64) :
  Calls Tryz.prog 75 #[.int .i64 n] w fun e w'=>∃ g,e=.returned (.tuple #[.slice (some ⟨g,0,none⟩) n n,.int .i64 0])/\w'.ownsRow w.heap.size 3 1 (.slice (some ⟨g,0,none⟩) n n) n (acf (List.range n))/\Upd [] w w':=by
 have hd1:decide ((n:Int)<0)=false:=by simp
 have hd2:decide ((64:Int)<(n:Int))=false:=by simp;omega
 have hd3:decide (64<n)=false:=by simp;omega
 go_enter Tryz.func75,Tryz.ntmps75
 go_wp2_with fail;refine (aAg n w (by omega)).mono ?_;rintro e w1 ⟨g,rfl,ho,hu⟩;have HO:=Lib.hid (And.intro ho hu);clear ho hu;go_wp2_with fail;go_ret2;exact ⟨g,rfl,HO.out⟩
structure ayW (w:World) (n tb g i:Nat) (wr:World):Prop where
 ex:∃ mbs:List Nat,mbs.length=i/\wr.heap[tb]?=some (.cells #[.slice (some ⟨g,0,none⟩) n n] 218 (0,0)) /\
  wr.ownsRow w.heap.size 219 1 (.slice (some ⟨g,0,none⟩) n n) n (mbs.map (fun m=>Value.map (some m))++List.replicate (n-i) (.map none)) /\
  (∀ (j m:Nat),mbs[j]?=some m->wr.heap[m]?=some (.map #[] 0)/\w.heap.size<=m/\m≠g/\m≠tb)/\mbs.Nodup/\tb≠g/\w.heap.size<=tb/\w.heap.size<=g/\i<=n
 up:Upd [] w wr
theorem ayW.step {w wr:World} {n tb g i:Nat} (h:ayW w n tb g i wr) (hi:i<n) :
  wr.cell? ⟨tb,0,none⟩=some (.slice (some ⟨g,0,none⟩) n n)/\wr.cell? ⟨g,i,none⟩=some (.map none)/\wr.frozen? ⟨g,i,none⟩=false /\
  Hid (ayW w n tb g (i+1) ((wr.setCell ⟨g,i,none⟩ (.map (some wr.heap.size))).alloc (.map #[] 0))):=by
 obtain ⟨mbs,h1,h2,h3,h4,h5,h6,h7,h8,h9⟩:=h.ex;have hsz:=h.up.size;have htl:=aa4 h2;have hgl:=(h3.lt g rfl).2;refine ⟨aac h2 rfl,abf h3 (by rw [List.getElem?_append_right (by simp;omega)];simp [h1,List.getElem?_replicate];omega),aci h3 _,⟨mbs++[wr.heap.size],by simp [h1],?_,?_,?_,?_,h6,h7,h8,by omega⟩,?_⟩
 ·rw [heap_alloc_old _ _ (by simpa [World.setCell] using htl),acb h6];exact h2
 ·have r:=(ae1 h3 (j:=i) (by omega) (.map (some wr.heap.size))).alloc (.map #[] 0)
  have e:(mbs.map (fun m=>Value.map (some m))++List.replicate (n-i) (Value.map none)).set i (.map (some wr.heap.size))=(mbs++[wr.heap.size]).map (fun m=>Value.map (some m))++List.replicate (n-(i+1)) (Value.map none):=by
   rw [List.set_append_right _ _ (by simp;omega)]
   simp only [List.length_map,h1,Nat.sub_self,List.map_append,List.append_assoc]
   congr 1
   rw [show n-i=(n-(i+1))+1 by omega,List.replicate_succ];rfl
  rw [<- e];exact r
 ·intro j m hj
  rw [List.getElem?_append] at hj
  split at hj
  ·obtain ⟨g1,g2,g3,g4⟩:=h4 j m hj
   refine ⟨?_,g2,g3,g4⟩
   rw [heap_alloc_old _ _ (by simpa [World.setCell] using aa4 g1),acb g3];exact g1
  ·simp only [List.getElem?_singleton] at hj
   split at hj
   ·cases hj
    refine ⟨?_,hsz,by omega,by omega⟩;have:=heap_alloc_new (wr.setCell ⟨g,i,none⟩ (.map (some wr.heap.size))) (.map #[] 0);rw [show (wr.setCell ⟨g,i,none⟩ (.map (some wr.heap.size))).heap.size=wr.heap.size by simp [World.setCell]] at this;exact this
   ·cases hj
 ·rw [List.nodup_append]
  refine ⟨h5,by simp,?_⟩
  intro a ha b hb
  simp at hb;subst hb
  obtain ⟨j,hj⟩:=List.mem_iff_getElem?.1 ha;have:=aa4 (h4 j a hj).1;omega
 ·exact (h.up.setCell (.inr h8) _).alloc _
theorem ayW.done {w wr:World} {n tb g:Nat} (h:ayW w n tb g n wr) (hn:n<=64):∃ F,afl wr tb (List.replicate n (.map [])) F/\Sub [] w F:=by
 obtain ⟨mbs,h1,h2,h3,h4,h5,h6,h7,h8,h9⟩:=h.ex;refine ⟨tb::g::mbs,⟨⟨g,n,mbs,by simpa using h2,?_,by simpa using h1,?_,rfl,h6,h5,?_,?_⟩,by simpa using hn⟩,?_⟩
 ·have:=aet h3 (Nat.zero_le _)
  simpa using this
 ·intro v D m hD hm
  have hD':D=.map []:=by
   have:=List.mem_of_getElem? hD;exact (List.mem_replicate.1 this).2
  subst hD';have hb:=(h4 v m hm).1;have e:(World.mk wr.heap wr.tape wr.drawn wr.os wr.output)=wr:=rfl;refine ⟨#[],0,hb,?_,Nat.zero_le _,rfl⟩;obtain ⟨es,clock,q1,q2,q3,q4⟩:=World.ownsMap_made wr Tryz.prog 142 (plainElem (H:=Unit) Tryz.prog 77);rw [heap_alloc_new] at q1;cases q1;exact q2
 ·intro hm
  obtain ⟨j,hj⟩:=List.mem_iff_getElem?.1 hm;exact (h4 j tb hj).2.2.2 rfl
 ·intro hm
  obtain ⟨j,hj⟩:=List.mem_iff_getElem?.1 hm;exact (h4 j g hj).2.2.1 rfl
 ·intro k hk
  simp at hk
  right
  rcases hk with rfl | rfl | hk
  ·exact h7
  ·exact h8
  ·obtain ⟨j,hj⟩:=List.mem_iff_getElem?.1 hk
   exact (h4 j k hj).2.1
theorem aJY {w w1:World} {n g:Nat} (hn:1<=n) (hs:w.heap.size=g) (ho:w1.ownsRow g 219 1 (.slice (some ⟨g,0,none⟩) n n) n (madeCells #[Value.map none] n).toList) (hg:w.grownBy w1 none) :
  ayW w n w1.heap.size g 0 (w1.alloc (.cells #[.slice (some ⟨g,0,none⟩) n n] 218 (0,0))):=by
 have hgl:=(ho.lt g rfl).2;have hsz:=hg.size;refine ⟨⟨[],rfl,heap_alloc_new w1 _,?_,by simp,by simp,by omega,by omega,by omega,by omega⟩,((Upd.refl [] w).grown hg (by simp)).alloc _⟩
 have e:(madeCells #[Value.map none] n).toList=[].map (fun (m:Nat)=>Value.map (some m))++List.replicate (n-0) (Value.map none):=by
  apply List.ext_getElem?
  intro i
  by_cases hi:i<n
  ·simp [madeCells,hi,Nat.mod_one]
  ·simp [madeCells,hi]
 rw [<- e,hs];exact ho.alloc _
theorem aHx (n:Nat) (w:World) (h1:1<=n) (hn:n<=64) :
  Calls Tryz.prog 76 #[.int .i64 n] w fun e w'=>∃ tb F,e=.returned (.tuple #[.pointer (some ⟨tb,0,none⟩),.int .i64 0])/\afl w' tb (List.replicate n (.map [])) F/\Upd [] w w'/\Sub [] w F:=by
 obtain ⟨i2,hi2,hz2,hs2,hb2⟩:=info_parts Tryz.infoMap;have HI:=Lib.hid (And.intro hi2 (And.intro hz2 (And.intro hs2 hb2)));clear hi2 hz2 hs2 hb2
 have hd1:decide ((n:Int)<1)=false:=by simp;omega
 have hd2:decide ((64:Int)<(n:Int))=false:=by simp;omega
 have hd3:decide (64<n)=false:=by simp;omega
 have hd4:decide (n<1)=false:=by simp;omega
 have hmm:=@run_makeMap Tryz.prog
 go_enter Tryz.func76,Tryz.ntmps76
 go_wp2_with (refine wpList_make_full _ rfl (.tmp 12) (.tmp 12) 216 rfl w.heap.size 219 i2 (.map none) 1 Tryz.underlying216 HI.out.1 HI.out.2.1 HI.out.2.2.1 .i64 .i64 _ _ n rfl rfl rfl rfl (by rw [HI.out.2.2.2];omega) (by unfold maxLen;omega) (Nat.le_refl _) ?_)
 obtain ⟨g,hg⟩ : ∃ g,w.heap.size=g:=⟨_,rfl⟩;rw [hg]
 intro w1 ho hgr
 have HS:=Lib.hid (aJY h1 hg ho hgr);clear ho hgr hg;go_wp2_with fail
 go_loopg [17] n (fun g2 s17 wr=>∃ i:Nat,n-i=g2/\i<=n/\s17=.int .i64 i/\ayW w n w1.heap.size g i wr)
 case atStart=>exact ⟨0,by omega,by omega,rfl,HS.out⟩
 case round =>
  obtain ⟨i,rfl,hin,rfl,hR⟩:=hrel
  by_cases hlt:i<n
  ·obtain ⟨c1,c2,c3,c4⟩:=hR.step hlt
   have hne:¬ w1.heap.size=g:=by obtain ⟨mbs,_,_,_,_,_,h6,_⟩:=hR.ex;exact h6
   have hgw:g<wr.heap.size:=World.block_lt_of_cell? wr _ c2;clear hR;go_wp2_with fail
   go_roundg (n-(i+1))
   case measure=>omega
   case rel=>exact ⟨i+1,rfl,by omega,by go_num,c4.out⟩
  ·have hd:decide (i<n)=false:=by simpa using hlt
   have hi:i=n:=by omega
   have HE:Hid ((∃ F,afl wr w1.heap.size (List.replicate n (.map [])) F/\Sub [] w F)/\Upd [] w wr):=by
    subst hi;exact ⟨hR.done hn,hR.up⟩
   clear hR hi;go_wp2_with fail;go_ret2;obtain ⟨⟨F,q1,q2⟩,q3⟩:=HE.out;exact ⟨_,F,rfl,q1,q3,q2⟩
end Go.Proofs.YtdackeldhdchaaaGreat
namespace Go.Proofs.YtdackeldhdchaaaGreat
open Go.RowKit
structure KV where
 A:aaU
 uses:List Nat
 holds:List Nat
 vars:Nat
 order:List Nat
 level:List Nat
 trail:List Nat
def cnt (p:abu) (r:Nat):Nat:=if p.taken then (if p.lo=r then 1 else 0)+(if p.hi=r then 1 else 0) else 0
def par (L:List abu) (r:Nat):Nat:=(L.map fun p=>cnt p r).sum
def KV.use (K:KV) (r:Nat):Nat:=K.uses.getD r 0
def KV.hold (K:KV) (r:Nat):Nat:=K.holds.getD r 0
def one (n:Nat):Nat:=if 0<n then 1 else 0
theorem aFL (L M:List abu) (r:Nat):par (L++M) r=par L r+par M r:=by simp [par]
theorem axR {L:List abu} {i:Nat} {p q:abu} (h:L[i]?=some p) (r:Nat):par (L.set i q) r+cnt p r=par L r+cnt q r:=by
 induction L generalizing i with
 | nil=>simp at h
 | cons x t ih =>
  cases i with
  | zero=>simp at h;subst h;simp [par];omega
  | succ i =>
   simp at h
   have:=ih h
   simp [par] at this ⊢
   omega
theorem aPz (L:List abu) (r:Nat):par L r<=2*L.length:=by
 induction L with
 | nil=>simp [par]
 | cons x t ih =>
  have:cnt x r<=2:=by unfold cnt;split <;> (try split) <;> (try split) <;> omega
  simp [par] at ih ⊢
  omega
theorem aGE {L:List abu} {r:Nat} (h:0<par L r):∃ (q:Nat) (p:abu),L[q]?=some p/\p.taken=true/\(p.lo=r\/p.hi=r):=by
 induction L with
 | nil=>simp [par] at h
 | cons x t ih =>
  by_cases hx:0<cnt x r
  ·refine ⟨0,x,rfl,?_⟩
   unfold cnt at hx
   split at hx
   ·rename_i ht
    refine ⟨ht,?_⟩
    by_cases h1:x.lo=r
    ·exact .inl h1
    ·by_cases h2:x.hi=r
     ·exact .inr h2
     ·simp [h1,h2] at hx
   ·omega
  ·have:0<par t r:=by simp [par] at h ⊢;omega
   obtain ⟨q,p,h1,h2⟩:=ih this;exact ⟨q+1,p,h1,h2⟩
theorem aJZ {L:List abu} {r:Nat} (h:∀ (q:Nat) (p:abu),L[q]?=some p->p.taken=true->p.lo≠r/\p.hi≠r):par L r=0:=by
 rcases Nat.eq_zero_or_pos (par L r) with h0 | h0
 ·exact h0
 ·obtain ⟨q,p,h1,h2,h3⟩:=aGE h0
  have:=h q p h1 h2
  rcases h3 with h3 | h3
  ·exact absurd h3 this.1
  ·exact absurd h3 this.2
structure KV.Wf (K:KV) (pend:List Nat):Prop where
 ok:K.A.Ok
 len:K.holds.length=K.uses.length
 ul:K.uses.length<=K.A.list.length
 tu:∀ r,2<=r->K.A.tk r=true->r<K.uses.length
 ht:∀ r,0<K.hold r->2<=r/\K.A.tk r=true
 hm:∀ r,K.hold r<=65535
 eq:∀ r,2<=r->K.A.tk r=true->K.use r=par K.A.list r+one (K.hold r)+pend.count r
 pt:∀ r,r∈pend->K.A.tk r=true
 cl:∀ (q:Nat) p,2<=q->K.A.list[q]?=some p->p.taken=true->K.A.tk p.lo=true/\K.A.tk p.hi=true
 vr:∀ (q:Nat) p,2<=q->K.A.list[q]?=some p->p.taken=true->0<=p.var/\p.var<K.vars
 vs:1<=K.vars/\K.vars<=64
def KV.Pos (K:KV):Prop:=∀ r,2<=r->K.A.tk r=true->0<K.use r
theorem afx {l:List Nat} {i j x:Nat} (h:i<l.length):(l.set i x).getD j 0=if j=i then x else l.getD j 0:=by
 rw [List.getD_eq_getElem?_getD,List.getD_eq_getElem?_getD]
 by_cases e:j=i
 ·subst e;rw [List.getElem?_set_self h];simp
 ·rw [List.getElem?_set_ne (Ne.symm e)];simp [e]
theorem KV.Wf.use_le {K:KV} {pend:List Nat} (h:K.Wf pend) {r:Nat} (hr:2<=r) (ht:K.A.tk r=true):K.use r<=2097153+pend.length:=by
 rw [h.eq r hr ht];have h1:=aPz K.A.list r;have h2:=h.ok.lp;have h3:=h.ok.pm;have h4:pend.count r<=pend.length:=List.count_le_length
 have h5:one (K.hold r)<=1:=by unfold one;split <;> omega
 omega
def KV.useK (K:KV) (r:Nat):KV:={ K with uses:=K.uses.set r (K.use r+1) }
theorem KV.Wf.useK {K:KV} {pend:List Nat} (h:K.Wf pend) {r:Nat} (hr:2<=r) (ht:K.A.tk r=true):(K.useK r).Wf (r::pend):=by
 have hl:=h.tu r hr ht;refine ⟨h.ok,by simpa [KV.useK] using h.len,by simpa [KV.useK] using h.ul,by simpa [KV.useK] using h.tu,h.ht,h.hm,?_,?_,h.cl,h.vr,h.vs⟩
 ·intro x hx htx
  have he:=h.eq x hx htx
  show (K.uses.set r (K.use r+1)).getD x 0=_
  rw [afx hl,List.count_cons]
  by_cases e:x=r
  ·subst e
   rw [if_pos rfl]
   show K.use x+1=par K.A.list x+one (K.hold x)+_
   simp;omega
  ·rw [if_neg e]
   show K.use x=par K.A.list x+one (K.hold x)+_
   rw [he]
   simp [Ne.symm e]
 ·intro x hx
  simp at hx
  rcases hx with rfl | hx
  ·exact ht
  ·exact h.pt x hx
theorem KV.Wf.pend01 {K:KV} {pend:List Nat} (h:K.Wf pend) {r:Nat} (hr:r<2):K.Wf (r::pend):=by
 refine ⟨h.ok,h.len,h.ul,h.tu,h.ht,h.hm,?_,?_,h.cl,h.vr,h.vs⟩
 ·intro x hx htx
  rw [h.eq x hx htx,List.count_cons]
  have:¬ r=x:=by omega
  simp [this]
 ·intro x hx
  simp at hx
  rcases hx with rfl | hx
  ·have:=h.ok.tk01
   match x,hr with
   | 0,_=>exact this.1
   | 1,_=>exact this.2
  ·exact h.pt x hx
theorem KV.Wf.unpend01 {K:KV} {pend:List Nat} {r:Nat} (h:K.Wf (r::pend)) (hr:r<2):K.Wf pend:=by
 refine ⟨h.ok,h.len,h.ul,h.tu,h.ht,h.hm,?_,fun x hx=>h.pt x (by simp [hx]),h.cl,h.vr,h.vs⟩
 intro x hx htx
 rw [h.eq x hx htx,List.count_cons]
 have:¬ r=x:=by omega
 simp [this]
theorem KV.Wf.perm {K:KV} {p q:List Nat} (h:K.Wf p) (hp:p.Perm q):K.Wf q :=
 ⟨h.ok,h.len,h.ul,h.tu,h.ht,h.hm,fun x hx htx=>by rw [h.eq x hx htx,hp.count_eq],fun x hx=>h.pt x (hp.symm.subset hx),h.cl,h.vr,h.vs⟩
def KV.less (K:KV) (r:Nat):KV:={ K with uses:=K.uses.set r (K.use r-1) }
theorem KV.Wf.less {K:KV} {pend:List Nat} {r:Nat} (h:K.Wf (r::pend)) (hr:2<=r):(K.less r).Wf pend:=by
 have ht:=h.pt r (by simp);have hl:=h.tu r hr ht;refine ⟨h.ok,by simpa [KV.less] using h.len,by simpa [KV.less] using h.ul,by simpa [KV.less] using h.tu,h.ht,h.hm,?_,fun x hx=>h.pt x (by simp [hx]),h.cl,h.vr,h.vs⟩
 intro x hx htx
 have he:=h.eq x hx htx
 show (K.uses.set r (K.use r-1)).getD x 0=_
 rw [afx hl];rw [List.count_cons] at he
 by_cases e:x=r
 ·subst e
  rw [if_pos rfl]
  show K.use x-1=par K.A.list x+one (K.hold x)+_
  simp at he;omega
 ·rw [if_neg e]
  show K.use x=par K.A.list x+one (K.hold x)+_
  rw [he]
  simp [Ne.symm e]
def KV.gone (K:KV) (r:Nat):KV:={ K with A:=K.A.drop r,uses:=K.uses.set r 0 }
theorem aGF {A:aaU} {r x:Nat} (h:r<A.list.length):(A.drop r).tk x=if x=r then false else A.tk x:=by
 unfold aaU.tk aaU.drop
 by_cases e:x=r
 ·subst e;simp [List.getElem?_set_self h,abu.zero]
 ·simp [List.getElem?_set_ne (Ne.symm e),e]
theorem KV.Wf.gone {K:KV} {pend:List Nat} {r:Nat} {p:abu} (h:K.Wf (r::pend)) (hr:2<=r) (hu:K.use r=1) (hp:K.A.list[r]?=some p) (hpt:p.taken=true) :
  (K.gone r).Wf (p.lo::p.hi::pend):=by
 have ht:=h.pt r (by simp);have hl:=h.tu r hr ht;have hlt:=(List.getElem?_eq_some_iff.1 hp).1;have he:=h.eq r hr ht;rw [hu,List.count_cons] at he
 simp at he
 have aSf:par K.A.list r=0:=by omega
 have aDj:one (K.hold r)=0:=by omega
 have hpc:pend.count r=0:=by omega
 have hnp:∀ (q:Nat) c,K.A.list[q]?=some c->c.taken=true->c.lo≠r/\c.hi≠r:=by
  intro q c hc hct
  have:cnt c r<=par K.A.list r:=by
   have h1:=axR (q:=abu.zero) hc r
   have:cnt abu.zero r=0:=by simp [cnt,abu.zero]
   omega
  have h0:cnt c r=0:=by omega
  unfold cnt at h0;rw [if_pos hct] at h0;constructor
  ·intro e;rw [if_pos e] at h0;omega
  ·intro e;rw [if_pos e] at h0;omega
 have hcl:=h.cl r p hr hp hpt
 have htk:∀ x,(K.gone r).A.tk x=if x=r then false else K.A.tk x:=fun x=>aGF hlt
 have hzero:K.hold r=0:=by unfold one at aDj;split at aDj <;> omega
 refine ⟨h.ok.drop ht hr,by simpa [KV.gone] using h.len,by simpa [KV.gone,aaU.drop] using h.ul,?_,?_,h.hm,?_,?_,?_,?_,h.vs⟩
 ·intro x hx htx
  rw [htk] at htx
  split at htx
  ·cases htx
  ·simpa [KV.gone] using h.tu x hx htx
 ·intro x hx
  have hx':0<K.hold x:=hx;obtain ⟨g1,g2⟩:=h.ht x hx';refine ⟨g1,?_⟩
  rw [htk,if_neg (by rintro rfl;omega)];exact g2
 ·intro x hx htx
  rw [htk] at htx
  split at htx
  ·cases htx
  ·rename_i e
   have he:=h.eq x hx htx
   show (K.uses.set r 0).getD x 0=_
   rw [afx hl,if_neg e]
   show K.use x=par (K.A.list.set r abu.zero) x+one (K.hold x)+_
   have h1:=axR (q:=abu.zero) hp x
   have h2:cnt abu.zero x=0:=by simp [cnt,abu.zero]
   have h3:cnt p x=(if p.lo=x then 1 else 0)+(if p.hi=x then 1 else 0):=by simp [cnt,hpt]
   rw [List.count_cons] at he;rw [List.count_cons,List.count_cons]
   have e':¬ r=x:=fun h=>e h.symm
   simp [e'] at he
   simp only [beq_iff_eq]
   omega
 ·intro x hx
  rw [htk]
  have hne:x≠r:=by
   rintro rfl
   simp at hx
   rcases hx with hx | hx | hx
   ·exact (hnp x p hp hpt).1 hx.symm
   ·exact (hnp x p hp hpt).2 hx.symm
   ·have:=List.count_pos_iff.2 hx;omega
  rw [if_neg hne]
  simp at hx
  rcases hx with rfl | rfl | hx
  ·exact hcl.1
  ·exact hcl.2
  ·exact h.pt x (by simp [hx])
 ·intro q c hq hc hct
  by_cases e:q=r
  ·subst e
   simp only [KV.gone,aaU.drop] at hc
   rw [List.getElem?_set_self hlt] at hc;cases hc;simp [abu.zero] at hct
  ·simp only [KV.gone,aaU.drop] at hc
   rw [List.getElem?_set_ne (Ne.symm e)] at hc;obtain ⟨g1,g2⟩:=h.cl q c hq hc hct;obtain ⟨g3,g4⟩:=hnp q c hc hct;rw [htk,htk,if_neg g3,if_neg g4];exact ⟨g1,g2⟩
 ·intro q c hq hc hct
  by_cases e:q=r
  ·subst e
   simp only [KV.gone,aaU.drop] at hc
   rw [List.getElem?_set_self hlt] at hc;cases hc;simp [abu.zero] at hct
  ·simp only [KV.gone,aaU.drop] at hc
   rw [List.getElem?_set_ne (Ne.symm e)] at hc;exact h.vr q c hq hc hct
theorem ayX {w w1:World} {b l lc g aCw lo hi r:Nat} {v:Int} {F fr:List Nat} {A:aaU} (hu:Upd F w w1)
  (h5:w1.heap[b]?=some (.cells #[.int .i64 A.places,.slice (some ⟨l,0,none⟩) A.list.length lc,.slice (some ⟨g,0,none⟩) A.free.length aCw,.int .i64 A.used] 235 (0,0)))
  (h6:w1.ownsRow 0 267 5 (.slice (some ⟨l,0,none⟩) A.list.length lc) A.list.length (ack A.list))
  (h7:w1.ownsRow 0 77 1 (.slice (some ⟨g,0,none⟩) A.free.length aCw) A.free.length (ach A.free))
  (hF:F=[b,l,g]) (hbl:b≠l) (hbf:¬ b=g) (hlf:¬ l=g) (hf:A.free=fr++[r]) (hlt:r<A.list.length) (hok:(A.put fr r v lo hi).Ok) :
  acR (((((((w1.setCell ⟨b,2,none⟩ (.slice (some ⟨g,0,none⟩) fr.length aCw)).setCell ⟨l,r*5,none⟩ (.int .i64 v)).setCell ⟨l,r*5+1,none⟩ (.int .u32 lo)).setCell ⟨l,r*5+2,none⟩ (.int .u32 hi)).setCell ⟨l,r*5+3,none⟩ (.bool true)).setCell ⟨l,r*5+4,none⟩ (.int .u8 0)).setCell ⟨b,3,none⟩ (.int .i64 (A.used+1))).drew b (A.put fr r v lo hi) F /\
  Upd F w (((((((w1.setCell ⟨b,2,none⟩ (.slice (some ⟨g,0,none⟩) fr.length aCw)).setCell ⟨l,r*5,none⟩ (.int .i64 v)).setCell ⟨l,r*5+1,none⟩ (.int .u32 lo)).setCell ⟨l,r*5+2,none⟩ (.int .u32 hi)).setCell ⟨l,r*5+3,none⟩ (.bool true)).setCell ⟨l,r*5+4,none⟩ (.int .u8 0)).setCell ⟨b,3,none⟩ (.int .i64 (A.used+1))).drew:=by
 refine ⟨⟨⟨l,lc,.slice (some ⟨g,0,none⟩) fr.length aCw,?_,?_,?_,by simpa [Value.ownBlock] using hF,hbl,by simpa [Value.ownBlock] using hbf,by simpa [Value.ownBlock] using hlf⟩,hok⟩,?_⟩
 ·simp [World.setCell,World.drew,Array.getElem?_modify,h5,Ne.symm hbl,aaU.put]
 ·rw [show (A.put fr r v lo hi).list.length=A.list.length by simp [aaU.put]]
  have hb':∀ j:Nat,some (⟨b,j,none⟩ : Addr).block≠(Value.slice (some ⟨l,0,none⟩) A.list.length lc).ownBlock:=by intro j;simpa [Value.ownBlock] using hbl
  have r1:=aAT (ac9 h6 (hb' 2) (.slice (some ⟨g,0,none⟩) fr.length aCw)) hlt ⟨v,lo,hi,true,0⟩;have r2:=ac9 r1 (hb' 3) (.int .i64 (A.used+1));exact akR r2
 ·have h7:=ax3 h7 (m:=fr.length) (by rw [hf];simp)
  rw [show (A.put fr r v lo hi).free=fr from rfl,show ach fr=List.take (fr.length*1) (ach A.free) by simp [hf,ach]];refine aaX h7 ?_
  rintro k hk;cases hk
  simp [World.setCell,World.drew,Array.getElem?_modify,hbf,hlf]
 ·refine Upd.drew ?_
  exact (((((((hu.setCell (by simp [hF]) _).setCell (by simp [hF]) _).setCell (by simp [hF]) _).setCell (by simp [hF]) _).setCell (by simp [hF]) _).setCell (by simp [hF]) _).setCell (by simp [hF]) _)
theorem aFM (b:Nat) (F:List Nat) (v:Int) (lo hi r:Nat) (fr:List Nat) (A:aaU) (w:World) (h:acR w b A F) (h1:lo≤4294967295) (h2:hi≤4294967295)
   (hf:A.free=fr ++ [r]) (hc:A.checkE v lo hi=0)  :
    Calls Tryz.prog 211 #[.pointer (some ⟨b,0,none⟩),.agg #[.int .i64 v,.int .u32 lo,.int .u32 hi]] w fun e w'=>e=.returned (.tuple #[.int .u32 r,.int .i64 0])∧acR w' b (A.put fr r v lo hi) F∧Upd F w w':=by
  have h':=fun o=>h.upd ((Upd.refl [] w).alloc o) (by simp)
  have HC:=Lib.hid hc; clear hc
  have hok:=h.ok;have HOK:=Lib.hid (h.ok.put (v:=v) hf h1 h2);have hb:=h.lt b h.head
  have Hf:=Lib.hid hf; clear hf
  go_enter Tryz.func211,Tryz.ntmps211
  go_wp2_with fail;refine (aoS b F v lo hi A _ (h' _) h1 h2).mono ?_
  rintro e w1 ⟨rfl,hu1⟩; rw [HC.out]
  have hA:=(h' _).upd hu1 (by simp);have hbx:w1.heap[w.heap.size]?=some (.cells #[.int .i64 v,.int .u32 lo,.int .u32 hi] 142 (0,0)):=(hu1.block w.heap.size (by simp) (by simp)).trans (heap_alloc_new w _);have hbs:=hu1.size;have hF:=h.lt;have HU:=Lib.hid (((Upd.refl F w).alloc _).then hu1 (by simp))
  simp only [World.size_alloc] at hbs
  clear h h' hu1;obtain ⟨l,lc,fv,h5,h6,h7,hF',hbl,hbf,hlf⟩:=hA.cells;have hpm:=hok.pm;have hlp:=hok.lp;have hus:=hok.us
  have aCx:A.free.length=fr.length + 1:=by rw [Hf.out]; simp
  have hfr:fr.length≤1048576:=by omega
  have hu:A.used≤1048576:=by omega
  obtain ⟨g,aCw,hfv,_,_⟩:=World.ownsRow.form h7 (by omega);subst hfv
  simp [Value.ownBlock] at hbf hlf hF'
  have hfc:fr.length≤aCw:=by have:=(ajT h7).2.1; omega
  obtain ⟨p,hp,_⟩:=(hok.fr r).1 (by rw [Hf.out]; simp);have hlt:=(List.getElem?_eq_some_iff.1 hp).1;have hl:l < w.heap.size:=hF _ (by simp [hF']);have hg:g < w.heap.size:=hF _ (by simp [hF'])
  have hnb:¬ w.heap.size=b:=by omega
  have hnl:¬ w.heap.size=l:=by omega
  have hng:¬ w.heap.size=g:=by omega
  have hc1:w1.cell? ⟨b,1,none⟩=some (.slice (some ⟨l,0,none⟩) A.list.length lc):=aac h5 rfl
  have hc2:w1.cell? ⟨b,2,none⟩=some (.slice (some ⟨g,0,none⟩) (fr.length + 1) aCw):=by rw [← aCx]; exact aac h5 rfl
  have hc3:w1.cell? ⟨b,3,none⟩=some (.int .i64 A.used):=aac h5 rfl;have hz2:=abq 2 h5;have hz3:=abq 3 h5;have hcr:w1.cell? ⟨g,fr.length,none⟩=some (.int .u32 r):=abf h7 (by simp [Hf.out,ach]);have g0:w1.cell? ⟨l,r * 5,none⟩=some (.int .i64 p.var):=abf h6 (j:=r * 5 + 0) (by rw [afu _ _ _ (by omega),hp]; rfl);have g1:w1.cell? ⟨l,r * 5 + 1,none⟩=some (.int .u32 p.lo):=abf h6 (by rw [afu _ _ _ (by omega),hp]; rfl);have g2:w1.cell? ⟨l,r * 5 + 2,none⟩=some (.int .u32 p.hi):=abf h6 (by rw [afu _ _ _ (by omega),hp]; rfl);have g3:w1.cell? ⟨l,r * 5 + 3,none⟩=some (.bool p.taken):=abf h6 (by rw [afu _ _ _ (by omega),hp]; rfl);have g4:w1.cell? ⟨l,r * 5 + 4,none⟩=some (.int .u8 p.count):=abf h6 (by rw [afu _ _ _ (by omega),hp]; rfl);have z0:=aci h6 (r * 5);have z1:=aci h6 (r * 5 + 1);have z2:=aci h6 (r * 5 + 2);have z3:=aci h6 (r * 5 + 3);have z4:=aci h6 (r * 5 + 4);have x0:w1.cell? ⟨w.heap.size,0,none⟩=some (.int .i64 v):=aac hbx rfl;have x1:w1.cell? ⟨w.heap.size,1,none⟩=some (.int .u32 lo):=aac hbx rfl;have x2:w1.cell? ⟨w.heap.size,2,none⟩=some (.int .u32 hi):=aac hbx rfl;have H5:=Lib.hid h5;have H6:=Lib.hid h6;have H7:=Lib.hid h7;have HF:=Lib.hid hF';have HL:=Lib.hid aCx;have HB:=Lib.hid hbx;clear h5 h6 h7 hF' aCx hp hus hF hA hbx hok;go_wp2_with fail
  go_region
  go_wp2_with fail;go_ret2;exact ⟨rfl,ayX HU.out H5.out H6.out H7.out HF.out hbl hbf hlf Hf.out hlt HOK.out⟩
theorem aPA (b:Nat) (F:List Nat) (v:Int) (lo hi:Nat) (A:aaU) (w:World) (h:acR w b A F) (h1:lo≤4294967295) (h2:hi≤4294967295)
   (hf:A.free=[]) (aGG:A.places≤A.list.length) (hc:A.checkE v lo hi=0)  :
    Calls Tryz.prog 211 #[.pointer (some ⟨b,0,none⟩),.agg #[.int .i64 v,.int .u32 lo,.int .u32 hi]] w fun e w'=>e=.returned (.tuple #[.int .u32 0,.int .i64 9])∧Upd [] w w':=by
  have h':=fun o=>h.upd ((Upd.refl [] w).alloc o) (by simp)
  have HC:=Lib.hid hc; clear hc
  have hok:=h.ok;have hb:=h.lt b h.head
  have Hf:=Lib.hid hf; clear hf
  go_enter Tryz.func211,Tryz.ntmps211
  go_wp2_with fail;refine (aoS b F v lo hi A _ (h' _) h1 h2).mono ?_
  rintro e w1 ⟨rfl,hu1⟩; rw [HC.out]
  have hA:=(h' _).upd hu1 (by simp);have hbx:w1.heap[w.heap.size]?=some (.cells #[.int .i64 v,.int .u32 lo,.int .u32 hi] 142 (0,0)):=(hu1.block w.heap.size (by simp) (by simp)).trans (heap_alloc_new w _);have hbs:=hu1.size;have hF:=h.lt;have HU:=Lib.hid (((Upd.refl [] w).alloc _).then hu1 (by simp))
  simp only [World.size_alloc] at hbs
  clear h h' hu1;obtain ⟨l,lc,fv,h5,h6,h7,hF',hbl,hbf,hlf⟩:=hA.cells;have hpm:=hok.pm;have hlp:=hok.lp;have hus:=hok.us
  have aCx:A.free.length=0:=by rw [Hf.out]; simp
  have hu:A.used≤1048576:=by omega
  rw [aCx] at h7;obtain ⟨fa,fc,hfv,_⟩:=abI h7;have hl:l < w.heap.size:=hF _ (by simp [hF'])
  have hnb:¬ w.heap.size=b:=by omega
  have hnl:¬ w.heap.size=l:=by omega
  have hc0:w1.cell? ⟨b,0,none⟩=some (.int .i64 A.places):=aac h5 rfl;have hc1:w1.cell? ⟨b,1,none⟩=some (.slice (some ⟨l,0,none⟩) A.list.length lc):=aac h5 rfl
  have hc2:w1.cell? ⟨b,2,none⟩=some (.slice fa 0 fc):=by rw [← hfv]; exact aac h5 rfl
  clear h5 h6 h7 hF' aCx hus hF hA hbx hok hfv;go_wp2_with fail
  go_region
  go_wp2_with fail;go_ret2;exact ⟨rfl,HU.out.drew⟩
theorem aHz {w w1:World} {b l lc lo hi:Nat} {v:Int} {F:List Nat} {fv:Value} {A:aaU}
  (h5:w1.heap[b]?=some (.cells #[.int .i64 A.places,.slice (some ⟨l,0,none⟩) A.list.length lc,fv,.int .i64 A.used] 235 (0,0)))
  (hF:F=[b,l]++fv.ownBlock.toList) (hbl:b≠l) (hlf:some l≠fv.ownBlock) (hu:Upd F w w1) :
  ∀ w2,(w1.alloc (.cells #[.int .i64 v,.int .u32 lo,.int .u32 hi,.bool true,.int .u8 0] 267 (0,0))).drew.drew.grownBy w2 (Value.slice (some ⟨l,0,none⟩) A.list.length lc).ownBlock ->
   w2.cell? ⟨b,1,none⟩=some (.slice (some ⟨l,0,none⟩) A.list.length lc)/\w2.frozen? ⟨b,1,none⟩=false/\w2.cell? ⟨b,3,none⟩=some (.int .i64 A.used)/\w2.frozen? ⟨b,3,none⟩=false /\
   Hid (Upd F w w2/\w2.heap[b]?=some (.cells #[.int .i64 A.places,.slice (some ⟨l,0,none⟩) A.list.length lc,fv,.int .i64 A.used] 235 (0,0))/\∀ k,fv.ownBlock=some k->k<w1.heap.size->w2.heap[k]?=w1.heap[k]?):=by
 intro w2 hg
 have hb:=aa4 h5
 have hbk:w2.heap[b]?=w1.heap[b]?:=by
  rw [hg.block b (by simp;omega) (by simpa [Value.ownBlock] using hbl)];exact heap_alloc_old w1 _ hb
 rw [h5] at hbk;refine ⟨aac hbk rfl,abq 1 hbk,aac hbk rfl,abq 3 hbk,((hu.alloc _).drew.drew).grown hg ?_,hbk,?_⟩
 ·intro k hk;left;simp [Value.ownBlock] at hk;subst hk;simp [hF]
 ·intro k hk hkl
  rw [hg.block k (by simp;omega) (by rw [<- hk];simpa [Value.ownBlock] using Ne.symm hlf)];exact heap_alloc_old w1 _ hkl
theorem aJ0 {w w1 w2:World} {b l lc g cap lo hi:Nat} {v:Int} {F:List Nat} {fv:Value} {A:aaU} {X:Obj}
  (ab3:w2.ownsRow 0 267 5 (.slice (some ⟨g,0,none⟩) (A.list.length+1) cap) (A.list.length+1) (ack A.list++[.int .i64 v,.int .u32 lo,.int .u32 hi,.bool true,.int .u8 0]))
  (hat:(Value.slice (some ⟨l,0,none⟩) A.list.length lc).ownBlock=some g\/g=(w1.alloc X).drew.drew.heap.size)
  (hu:Upd F w w2) (h5:w2.heap[b]?=some (.cells #[.int .i64 A.places,.slice (some ⟨l,0,none⟩) A.list.length lc,fv,.int .i64 A.used] 235 (0,0)))
  (hk:∀ k,fv.ownBlock=some k->k<w1.heap.size->w2.heap[k]?=w1.heap[k]?)
  (hF:F=[b,l]++fv.ownBlock.toList) (h7:w1.ownsRow 0 77 1 fv 0 (ach A.free))
  (hbl:b≠l) (hbf:some b≠fv.ownBlock) (hlf:some l≠fv.ownBlock) (hs:w.heap.size<=w1.heap.size/\b<w1.heap.size) (hok:(A.push v lo hi).Ok) :
  ∃ F',acR ((w2.setCell ⟨b,1,none⟩ (.slice (some ⟨g,0,none⟩) (A.list.length+1) cap)).setCell ⟨b,3,none⟩ (.int .i64 (A.used+1))) b (A.push v lo hi) F' /\
   Upd F w ((w2.setCell ⟨b,1,none⟩ (.slice (some ⟨g,0,none⟩) (A.list.length+1) cap)).setCell ⟨b,3,none⟩ (.int .i64 (A.used+1)))/\Sub F w F':=by
 have hfl:A.free=[]:=by
  have:=h7.1
  simpa [ach] using this
 have hbg:b≠g:=by
  rcases hat with h | h
  ·simp [Value.ownBlock] at h;rw [<- h];exact hbl
  ·simp at h;omega
 have hgf:some g≠fv.ownBlock:=by
  rcases hat with h | h
  ·simp [Value.ownBlock] at h;rw [<- h];exact hlf
  ·intro e
   have:=(h7.lt g e.symm).2
   simp at h;omega
 have hlen:(A.push v lo hi).list.length=A.list.length+1:=by simp [aaU.push]
 have aJ1:ack (A.push v lo hi).list=ack A.list++[.int .i64 v,.int .u32 lo,.int .u32 hi,.bool true,.int .u8 0]:=by simp [aaU.push,ack,abu.flat]
 refine ⟨[b,g]++fv.ownBlock.toList,⟨⟨g,cap,fv,?_,?_,?_,rfl,hbg,hbf,hgf⟩,hok⟩,?_,?_⟩
 ·rw [hlen]
  have e1:=abV (j:=3) (abV (j:=1) h5 (.slice (some ⟨g,0,none⟩) (A.list.length+1) cap)) (.int .i64 (A.used+1));rw [e1]
  simp [aaU.push]
 ·rw [hlen,aJ1]
  have hb':∀ j:Nat,some (⟨b,j,none⟩ : Addr).block≠(Value.slice (some ⟨g,0,none⟩) (A.list.length+1) cap).ownBlock:=by intro j;simpa [Value.ownBlock] using hbg
  exact ac9 (ac9 ab3 (hb' 1) _) (hb' 3) _
 ·rw [show (A.push v lo hi).free.length=0 by simp [aaU.push,hfl],show (A.push v lo hi).free=A.free from rfl]
  have r0:w2.ownsRow 0 77 1 fv 0 (ach A.free):=aaX h7 fun k e=>hk k e (h7.lt k e).2
  exact ac9 (ac9 r0 hbf _) hbf _
 ·exact (hu.setCell (by simp [hF]) _).setCell (by simp [hF]) _
 ·intro k hk'
  simp only [List.mem_append,List.mem_cons,List.not_mem_nil,or_false] at hk'
  rcases hk' with (rfl | rfl) | hk'
  ·simp [hF]
  ·rcases hat with h | h
   ·simp [Value.ownBlock] at h;subst h;simp [hF]
   ·right;simp at h;omega
  ·left;rw [hF];simp at hk' ⊢;exact .inr (.inr hk')
theorem aFN (b:Nat) (F:List Nat) (v:Int) (lo hi:Nat) (A:aaU) (w:World) (h:acR w b A F) (h1:lo≤4294967295) (h2:hi≤4294967295)
   (hf:A.free=[]) (afQ:A.list.length < A.places) (hc:A.checkE v lo hi=0)  :
    Calls Tryz.prog 211 #[.pointer (some ⟨b,0,none⟩),.agg #[.int .i64 v,.int .u32 lo,.int .u32 hi]] w fun e w'=>e=.returned (.tuple #[.int .u32 A.list.length,.int .i64 0])∧∃ F',acR w' b (A.push v lo hi) F'∧Upd F w w'∧Sub F w F':=by
  have h':=fun o=>h.upd ((Upd.refl [] w).alloc o) (by simp)
  have HC:=Lib.hid hc; clear hc
  have hok:=h.ok;have HOK:=Lib.hid (h.ok.push (v:=v) afQ h1 h2);have hb:=h.lt b h.head
  have Hf:=Lib.hid hf; clear hf
  go_enter Tryz.func211,Tryz.ntmps211
  go_wp2_with fail;refine (aoS b F v lo hi A _ (h' _) h1 h2).mono ?_
  rintro e w1 ⟨rfl,hu1⟩; rw [HC.out]
  have hA:=(h' _).upd hu1 (by simp);have hbx:w1.heap[w.heap.size]?=some (.cells #[.int .i64 v,.int .u32 lo,.int .u32 hi] 142 (0,0)):=(hu1.block w.heap.size (by simp) (by simp)).trans (heap_alloc_new w _);have hbs:=hu1.size;have hF:=h.lt;have HU:=Lib.hid (((Upd.refl F w).alloc _).then hu1 (by simp))
  simp only [World.size_alloc] at hbs
  clear h h' hu1;obtain ⟨l,lc,fv,h5,h6,h7,hF',hbl,hbf,hlf⟩:=hA.cells;have hpm:=hok.pm;have hlp:=hok.lp;have hus:=hok.us
  have aCx:A.free.length=0:=by rw [Hf.out]; simp
  have hu:A.used≤1048576:=by omega
  rw [aCx] at h7;obtain ⟨fa,fc,hfv,_⟩:=abI h7;have hl:l < w.heap.size:=hF _ (by simp [hF'])
  have hnb:¬ w.heap.size=b:=by omega
  have hnl:¬ w.heap.size=l:=by omega
  have hc0:w1.cell? ⟨b,0,none⟩=some (.int .i64 A.places):=aac h5 rfl;have hc1:w1.cell? ⟨b,1,none⟩=some (.slice (some ⟨l,0,none⟩) A.list.length lc):=aac h5 rfl
  have hc2:w1.cell? ⟨b,2,none⟩=some (.slice fa 0 fc):=by rw [← hfv]; exact aac h5 rfl
  have hd1:decide (A.places≤A.list.length)=false:=by simpa using afQ
  have hc3:w1.cell? ⟨b,3,none⟩=some (.int .i64 A.used):=aac h5 rfl;have hz1:=abq 1 h5;have hz3:=abq 3 h5;have hbw:b < w1.heap.size:=aa4 h5;have x0:w1.cell? ⟨w.heap.size,0,none⟩=some (.int .i64 v):=aac hbx rfl;have x1:w1.cell? ⟨w.heap.size,1,none⟩=some (.int .u32 lo):=aac hbx rfl;have x2:w1.cell? ⟨w.heap.size,2,none⟩=some (.int .u32 hi):=aac hbx rfl;have H5:=Lib.hid h5;have H6:=Lib.hid h6;have H7:=Lib.hid h7;have HF:=Lib.hid hF';clear h5 h6 h7 hF' aCx hus hF hA hbx hok hfv;obtain ⟨i,hi0,hz0,amR,hz2⟩:=info_parts Tryz.infoPlace;have HI:=Lib.hid hi0;have HZ:=Lib.hid hz0;have HZ1:=Lib.hid amR;have HZ2:=Lib.hid hz2;clear hi0 hz0 amR hz2;go_wp2_with fail
  go_region
  go_wp2_with fail
  have HN:∀ j u,[Value.int .i64 v,.int .u32 lo,.int .u32 hi,.bool true,.int .u8 0][j]?=some u→((w1.alloc (.cells #[.int .i64 v,.int .u32 lo,.int .u32 hi,.bool true,.int .u8 0] 267 (0,0))).drew.drew).cell? ((⟨w1.heap.size,0,none⟩ : Addr).add j)=some u :=
    World.news_of_block (cs:=#[.int .i64 v,.int .u32 lo,.int .u32 hi,.bool true,.int .u8 0]) (heap_alloc_new w1 _)
  have HC2:∀ u,u∈[Value.int .i64 v,.int .u32 lo,.int .u32 hi,.bool true,.int .u8 0]→u.oneCell'=true:=by simp [Value.oneCell']
  have HN':=Lib.hid HN;have aAj:=Lib.hid HC2;clear HN HC2;have HK:=Lib.hid (aHz (v:=v) (lo:=lo) (hi:=hi) H5.out HF.out hbl hlf HU.out)
  go_region_law (refine step_append_lies _ rfl (.tmp 72) (.tmp 75) 233 rfl 0 267 i _ 5 24 Tryz.underlying233 HI.out HZ.out HZ1.out HZ2.out (by rfl) (by decide) _ _ _ rfl (akR (akR (H6.out.alloc _))) ⟨w1.heap.size,0,none⟩ 1 1 [.int .i64 v,.int .u32 lo,.int .u32 hi,.bool true,.int .u8 0] rfl rfl HN'.out aAj.out (by omega) (by unfold maxLen; omega) (by omega) (by omega) _ rfl ?_; intro g cap w2 ab3 hgr hat aut; obtain ⟨k1,k2,k3,k4,k5⟩:=HK.out w2 hgr; have HX:=Lib.hid (And.intro ab3 (And.intro hgr hat)); clear ab3 hgr hat)
  all_goals
    go_wp2_with fail;go_ret2;refine ⟨rfl,?_⟩;obtain ⟨y1,y2,y3⟩:=HX.out;obtain ⟨z1,z2,z3⟩:=k5.out;exact aJ0 y1 y3 z1 z2 z3 HF.out H7.out hbl hbf hlf (by omega) HOK.out
end Go.Proofs.YtdackeldhdchaaaGreat
