import Derived.Test.YtpfafhmkbcahhaaGreatPT15
import Derived.Test.YtpfafhmkbcahhaaGreatPT8
import Derived.Deep.RegionHeld
import Derived.Deep.QuietTactic
set_option maxRecDepth 100000
set_option maxHeartbeats 1600000
namespace Go.Proofs.YtpfafhmkbcahhaaGreat
open Go.RowKit Go.Maps Go.ChangeMaps Go.WideShapes
def KV.addT (K:KV) (l:Nat):KV:={ K with trail:=K.trail++[l] }
theorem KV.Ok.addT {K:KV} (h:K.Ok) {l:Nat} (hl:l+2<=K.vars):(K.addT l).Ok:=by
 refine ⟨⟨h.wf.ok,h.wf.len,h.wf.ul,h.wf.tu,h.wf.ht,h.wf.hm,h.wf.eq,h.wf.pt,h.wf.cl,h.wf.vr,h.wf.vs⟩,h.pos,h.ord.same rfl rfl rfl rfl,fun x hx=>?_⟩
 rcases List.mem_append.1 hx with hx | hx
 ·exact h.tl x hx
 ·simp at hx;subst hx;exact hl
def KV.cutT (K:KV):KV:={ K with trail:=K.trail.dropLast }
theorem KV.Ok.cutT {K:KV} (h:K.Ok):K.cutT.Ok :=
 ⟨⟨h.wf.ok,h.wf.len,h.wf.ul,h.wf.tu,h.wf.ht,h.wf.hm,h.wf.eq,h.wf.pt,h.wf.cl,h.wf.vr,h.wf.vs⟩,h.pos,h.ord.same rfl rfl rfl rfl,fun x hx=>h.tl x (List.dropLast_subset _ hx)⟩
structure ExchK (b:Nat) (K:KV) (l:Int) (q:KPtr) (w:World) (e:Ending) (w':World):Prop where
  ex:∃ (code:Int) (K':KV) (T':List DM) (q':KPtr),e=.returned (.int .i64 code)∧KerIn w' b K' T' q'∧Upd (q.all b) w w'∧Sub (q.all b) w (q'.all b) ∧
    ((code=1∧(l < 0∨(K.vars:Int) - 2 < l)∧K'=K) ∨
     ∃ n:Nat,l=(n:Int)∧n + 2≤K.vars∧∃ (C:List CrV) (N:List (Nat × Nat)),CrAll K n (K.order.getD n 0) (K.order.getD (n + 1) 0) C∧FrN K (K.order.getD n 0) (C.flatMap CrV.qs) N ∧
      ((code=9∧K.A.places < K.A.used + N.length∧K'=K)∨(code=0∧K.A.used + N.length≤K.A.places∧∃ K1,Exch K n K1∧(C=[]→K1=K.swapK n)∧K'=K1.addT n)))
theorem exchange_spec (b:Nat) (l:Int) (K:KV) (T:List DM) (q:KPtr) (w:World) (h:KerIn w b K T q) (htr:K.trail.length<=1000000) :
  Calls Tryz.prog 49 #[.pointer (some ⟨b,0,none⟩),.int .i64 l] w fun e w'=>ExchK b K l q w e w':=by
 obtain ⟨ti,hi0,hz0,hz1',hz2⟩:=info_parts Tryz.infoIntE;have HI:=Lib.hid (And.intro hi0 (And.intro hz0 (And.intro hz1' hz2)));have hvs:=h.ok.wf.vs;have c4:w.cell? ⟨b,4,none⟩=some (.int .i64 K.vars):=cell_at h.mem.blk rfl;have HK:=Lib.hid h;clear h hi0 hz0 hz1' hz2
 by_cases h0:l<0
 ·have hd0:decide (l<0)=true:=by simpa using h0
  go_enter Tryz.func49,Tryz.ntmps49
  go_wp2_with fail;go_ret;exact ⟨1,K,T,q,rfl,HK.out,Upd.refl _ _,Sub.refl _ _,.inl ⟨rfl,.inl h0,rfl⟩⟩
 ·have hd0:decide (l<0)=false:=by simpa using h0
  have hsub:IntKind.i64.wrap ((K.vars:Int)-2)=(K.vars:Int)-2:=IntWalk.i64_in _ (by omega)
  by_cases h1:(K.vars:Int)-2<l
  ·have hd1:decide ((K.vars:Int)-2<l)=true:=by simpa using h1
   go_enter Tryz.func49,Tryz.ntmps49
   go_wp2_with fail;go_ret;exact ⟨1,K,T,q,rfl,HK.out,Upd.refl _ _,Sub.refl _ _,.inl ⟨rfl,.inr h1,rfl⟩⟩
  ·have hd1:decide ((K.vars:Int)-2<l)=false:=by simpa using h1
   obtain ⟨n,rfl⟩ : ∃ n:Nat,l=(n:Int):=⟨l.toNat,by omega⟩;have HT:=Lib.hid (turn_spec b n K T q w HK.out (by omega))
   go_enter Tryz.func49,Tryz.ntmps49
   go_wp2_with fail;refine HT.out.mono ?_;rintro e w1 hE;obtain ⟨C,N,hC,hN,hcase⟩:=hE.ex;have HCN:=Lib.hid (And.intro hC hN);clear hE hC hN HT c4
   rcases hcase with ⟨rfl,hfull,hu⟩ | ⟨rfl,hroom,K1,T1,q1,hx,hnil,hk1,hu,hs⟩
   ·have HE:Hid (ExchK b K n q w (.returned (.int .i64 9)) w1):=⟨9,K,T,q,rfl,HK.out.upd hu (by simp),hu.mono (by simp),Sub.refl _ _,.inr ⟨n,rfl,by omega,C,N,HCN.out.1,HCN.out.2,.inl ⟨rfl,hfull,rfl⟩⟩⟩
    clear hfull hu;go_wp2_with fail;go_ret;exact HE.out
   ·have hm:=hk1.mem
    have hrow:=hm.ts;have htr1:K1.trail=K.trail:=hx.tr;rw [htr1] at hrow;obtain ⟨fa,fc,hfv,_⟩:=row_nil_len hrow
    have hb7:w1.cell? ⟨b,7,none⟩=some (.slice fa K.trail.length fc):=by rw [show Value.slice fa K.trail.length fc=q1.tv from hfv.symm];exact cell_at hm.blk rfl
    rw [hfv] at hrow;have HROW:Hid (w1.ownsRow 0 3 1 (.slice fa K.trail.length fc) K.trail.length (flatN K.trail)):=hrow;have HFV:=Lib.hid hfv;have HM:=Lib.hid (And.intro hm (And.intro hu (And.intro hs (And.intro hx (And.intro hnil (And.intro hk1.ti hk1.ok))))));have hbl:=heap_lt hm.blk
    have HC2:Hid (∀ u,u∈[Value.int .i64 n]->u.oneCell'=true):=by intro u hu;simp at hu;subst hu;rfl
    clear hm hu hs hx hnil hk1 hrow hfv
    go_wp2_with (at_builtin;go_must (refine wpList_append_lies _ rfl (.tmp 29) (.tmp 31) 22 rfl 0 3 ti _ 1 8 Tryz.underlying22 HI.out.1 HI.out.2.1 HI.out.2.2.1 HI.out.2.2.2 (by rfl) (by decide) _ K.trail.length (flatN K.trail) rfl (HROW.out.alloc _) ⟨w1.heap.size,0,none⟩ 1 1 [.int .i64 n] rfl rfl ?c1 HC2.out (by omega) (by unfold maxLen;omega) (by omega) (by omega) _ rfl ?_))
    case c1=>exact World.news_of_block (heap_alloc_new w1 (.cells #[.int .i64 n] 3 (0,0)))
    intro g5 cap w5 hown hgr hat hlt5
    have hat':(Value.slice fa K.trail.length fc).ownBlock=some g5\/g5=w1.heap.size+1:=hat
    have hbk5:w5.heap[b]?=w1.heap[b]?:=by
     have hne:some b≠(Value.slice fa K.trail.length fc).ownBlock:=by
      intro e
      have e1:=HM.out.1.ob;have e2:=HM.out.1.ox b (by rw [HFV.out];exact e.symm);omega
     rw [hgr.block b (by rw [World.size_alloc];omega) hne,Below.heap_alloc _ _ _ hbl]
    rw [HM.out.1.blk] at hbk5;have fz:w5.frozen? ⟨b,7,none⟩=false:=frozen_at 7 hbk5;have c57:w5.cell? ⟨b,7,none⟩=some q1.tv:=cell_at hbk5 rfl
    have HE:Hid (∃ q',KerMem (w5.setCell ⟨b,7,none⟩ (.slice (some ⟨g5,0,none⟩) (K.trail.length+1) cap)) b (K1.addT n) T1 q'/\Upd (q.all b) w (w5.setCell ⟨b,7,none⟩ (.slice (some ⟨g5,0,none⟩) (K.trail.length+1) cap))/\Sub (q.all b) w (q'.all b)):=by
     have m:=HM.out.1.growTrail (g5:=g5) (cap:=cap) (l:=n) (by rw [HFV.out];exact hgr) (by rw [HFV.out];exact hat') (by rw [htr1];exact hown);rw [htr1] at m;refine ⟨_,by unfold KV.addT;rw [htr1];exact m,?_,fun k hk=>?_⟩
     ·have hbm:b∈q.all b:=KPtr.mem.2 (.inl rfl)
      have u5:Upd (q.all b) w w5:=(HM.out.2.1.alloc (.cells #[.int .i64 n] 3 (0,0))).grown hgr fun k hk=>HM.out.2.2.1 k (KPtr.mem.2 (.inr (.inr (.inr (.inr (.inr (.inr (.inr (by rw [HFV.out];exact hk)))))))))
      exact u5.setCell (p:=⟨b,7,none⟩) (.inl hbm) _
     ·have old:∀ k,k∈q1.all b->k∈q.all b\/w.heap.size<=k:=HM.out.2.2.1
      simp only [KPtr.mem] at hk
      rcases hk with hk | hk | hk | hk | hk | hk | hk | hk
      ·exact old k (KPtr.mem.2 (.inl hk))
      ·exact old k (KPtr.mem.2 (.inr (.inl hk)))
      ·exact old k (KPtr.mem.2 (.inr (.inr (.inl hk))))
      ·exact old k (KPtr.mem.2 (.inr (.inr (.inr (.inl hk)))))
      ·exact old k (KPtr.mem.2 (.inr (.inr (.inr (.inr (.inl hk))))))
      ·exact old k (KPtr.mem.2 (.inr (.inr (.inr (.inr (.inr (.inl hk)))))))
      ·exact old k (KPtr.mem.2 (.inr (.inr (.inr (.inr (.inr (.inr (.inl hk))))))))
      ·simp [Value.ownBlock] at hk;subst hk
       rcases hat' with e | e
       ·exact old _ (KPtr.mem.2 (.inr (.inr (.inr (.inr (.inr (.inr (.inr (by rw [HFV.out];exact e)))))))))
       ·have:=HM.out.2.1.size;right;omega
    clear hown hgr hat hat' hlt5 hbk5 hb7;go_wp2_with fail;go_ret;obtain ⟨q',m,u,s⟩:=HE.out;exact ⟨0,K1.addT n,T1,q',rfl,⟨m,HM.out.2.2.2.2.2.1.same rfl rfl,HM.out.2.2.2.2.2.2.addT (by rw [HM.out.2.2.2.1.vr];omega)⟩,u,s,.inr ⟨n,rfl,by omega,C,N,HCN.out.1,HCN.out.2,.inr ⟨rfl,hroom,K1,HM.out.2.2.2.1,HM.out.2.2.2.2.1,rfl⟩⟩⟩
theorem KerMem.cutTrail {w:World} {b g n c:Nat} {K:KV} {T:List DM} {q:KPtr} (h:KerMem w b K T q) (hq:q.tv=.slice (some ⟨g,0,none⟩) n c) :
  KerMem (w.setCell ⟨b,7,none⟩ (.slice (some ⟨g,0,none⟩) (K.trail.length-1) c)) b K.cutT T { q with tv:=.slice (some ⟨g,0,none⟩) (K.trail.length-1) c }:=by
 have hne:∀ {k c},q.o k=c->c≠0->k≠b:=fun {k c} hk hc hm=>hc (by rw [<- hk,hm,h.ob])
 have hk:∀ {k c:Nat} {v:Value},q.o k=c->c≠0->(w.setCell ⟨b,7,none⟩ v).heap[k]?=w.heap[k]?:=fun hk hc=>heap_set_ne (hne hk hc)
 have hts:=h.ts;rw [hq] at hts;have hg:q.o g=7:=h.ox g (by rw [hq];rfl)
 refine ⟨by rw [heap_set_eq h.blk];rfl,h.ar.keep fun k hm=>hk (h.oa k hm) (by omega),h.tab.keep fun k hm=>hk (h.ot k hm) (by omega),row_keep h.us fun k hm=>hk (h.ou k hm) (by omega),
  row_keep h.hs fun k hm=>hk (h.oh k hm) (by omega),row_keep h.os fun k hm=>hk (h.oo k hm) (by omega),row_keep h.ls fun k hm=>hk (h.ol k hm) (by omega),?_,
  h.ob,h.oa,h.ot,h.ou,h.oh,h.oo,h.ol,fun k hk=>by simp [Value.ownBlock] at hk;subst hk;exact hg⟩
 have e:K.cutT.trail.length=K.trail.length-1:=by show K.trail.dropLast.length=_;rw [List.length_dropLast]
 rw [e];have ht:=row_take hts (m:=K.trail.length-1) (by omega)
 have e2:flatN K.cutT.trail=(flatN K.trail).take ((K.trail.length-1)*1):=by
  show flatN K.trail.dropLast=_
  rw [List.dropLast_eq_take,Nat.mul_one];simp [flatN,List.map_take]
 rw [e2];exact row_ne ht (a:=⟨b,7,none⟩) (by simp [Value.ownBlock];exact fun e=>(hne hg (by omega)) e.symm) _
structure UndoK (b:Nat) (K:KV) (q:KPtr) (w:World) (e:Ending) (w':World):Prop where
  ex:∃ (K':KV) (T':List DM) (q':KPtr),KerIn w' b K' T' q'∧Upd (q.all b) w w'∧Sub (q.all b) w (q'.all b) ∧
    ((K.trail=[]∧e=.returned (.tuple #[.int .i64 0,.int .i64 10])∧K'=K) ∨
     (K.trail≠[]∧e=.returned (.tuple #[.int .i64 (K.trail.getLastD 0:Nat),.int .i64 0])∧∃ K1,Exch K (K.trail.getLastD 0) K1∧K'=K1.cutT))
theorem last_at {t:List Nat} (h:t≠[]):t[t.length-1]?=some (t.getLastD 0):=by
 rw [<- List.getLast?_eq_getElem?,List.getLastD_eq_getLast?,List.getLast?_eq_some_getLast h];rfl
theorem undo_spec (b:Nat) (K:KV) (T:List DM) (q:KPtr) (w:World) (h:KerIn w b K T q) (htr:K.trail.length<=1000000)
  (hroom:K.trail≠[]->∀ (C:List CrV) (N:List (Nat × Nat)),CrAll K (K.trail.getLastD 0) (K.order.getD (K.trail.getLastD 0) 0) (K.order.getD (K.trail.getLastD 0+1) 0) C->FrN K (K.order.getD (K.trail.getLastD 0) 0) (C.flatMap CrV.qs) N->K.A.used+N.length<=K.A.places) :
  Calls Tryz.prog 41 #[.pointer (some ⟨b,0,none⟩)] w fun e w'=>UndoK b K q w e w':=by
 have hrow:=h.mem.ts;have HK:=Lib.hid h;obtain ⟨fa,fc,hfv,hform⟩:=row_nil_len hrow
 have c7:w.cell? ⟨b,7,none⟩=some (.slice fa K.trail.length fc):=by rw [<- hfv];exact cell_at h.mem.blk rfl
 have HFV:=Lib.hid hfv;rw [hfv] at hrow;have HRM:=Lib.hid hroom;clear h hfv hroom
 by_cases hn:K.trail=[]
 ·have hl0:K.trail.length=0:=by rw [hn];rfl
  have HE:Hid (UndoK b K q w (.returned (.tuple #[.int .i64 0,.int .i64 10])) w):=⟨K,T,q,HK.out,Upd.refl _ _,Sub.refl _ _,.inl ⟨hn,rfl,rfl⟩⟩;rw [hl0] at c7;clear hrow hform hn
  go_enter Tryz.func41,Tryz.ntmps41
  go_wp2_with fail;go_ret2;exact HE.out
 ·obtain ⟨k,hk⟩ : ∃ k,K.trail.length=k+1:=⟨K.trail.length-1,by have:=List.length_pos_iff.2 hn;omega⟩
  obtain ⟨g,rfl⟩ : ∃ g,fa=some ⟨g,0,none⟩:=by
   rcases hform with ⟨_,h0,_⟩ | h
   ·omega
   ·exact h
  obtain ⟨l,hl⟩ : ∃ l,K.trail.getLastD 0=l:=⟨_,rfl⟩;have hat:=last_at hn;rw [hl,hk] at hat;have cl:w.cell? ⟨g,k,none⟩=some (.int .i64 l):=row_cell hrow (by simp [flatN];exact ⟨l,hat,rfl⟩);have hl2:l+2<=K.vars:=HK.out.ok.tl l (List.mem_of_getElem? hat);have HT:=Lib.hid (turn_spec b l K T q w HK.out hl2);have HL:=Lib.hid hl;have HN:=Lib.hid hn;have HKL:=Lib.hid hk;rw [hk] at c7 htr;clear hrow hform hat hl hn hk
  go_enter Tryz.func41,Tryz.ntmps41
  go_wp2_with fail;refine HT.out.mono ?_;rintro e w1 hE;obtain ⟨C,N,hC,hN,hcase⟩:=hE.ex;have hrm:=HRM.out HN.out;rw [HL.out] at hrm;have hrm2:=hrm C N hC hN
  rcases hcase with ⟨_,hfull,_⟩ | ⟨rfl,hroom,K1,T1,q1,hx,_,hk1,hu,hs⟩
  ·omega
  ·have htr1:K1.trail=K.trail:=hx.tr
   have hrow:=hk1.mem.ts;obtain ⟨fa,fc2,hfv,hform⟩:=row_nil_len hrow
   obtain ⟨g2,rfl⟩ : ∃ g,fa=some ⟨g,0,none⟩:=by
    rcases hform with ⟨_,h0,_⟩ | h
    ·rw [htr1,HKL.out] at h0;omega
    ·exact h
   have hc2:k+1<=fc2:=by have:=(row_block (hfv ▸ hrow)).2.1;rw [htr1,HKL.out] at this;exact this
   have b7:w1.cell? ⟨b,7,none⟩=some (.slice (some ⟨g2,0,none⟩) (k+1) fc2):=by
    have:=cell_at (j:=7) hk1.mem.blk (v:=q1.tv) rfl;rw [this,hfv,htr1,HKL.out]
   have fz:w1.frozen? ⟨b,7,none⟩=false:=frozen_at 7 hk1.mem.blk;have m:=hk1.mem.cutTrail hfv;rw [htr1,HKL.out,Nat.add_sub_cancel] at m
   have HE:Hid (UndoK b K q w (.returned (.tuple #[.int .i64 l,.int .i64 0])) (w1.setCell ⟨b,7,none⟩ (.slice (some ⟨g2,0,none⟩) k fc2))):=by
    refine ⟨K1.cutT,T1,_,⟨m,hk1.ti.same rfl rfl,hk1.ok.cutT⟩,hu.setCell (p:=⟨b,7,none⟩) (.inl (KPtr.mem.2 (.inl rfl))) _,fun j hj=>hs j ?_,.inr ⟨HN.out,by rw [HL.out],K1,by rw [HL.out];exact hx,rfl⟩⟩
    simp only [KPtr.mem] at hj ⊢
    rcases hj with hj | hj | hj | hj | hj | hj | hj | hj
    ·exact .inl hj
    ·exact .inr (.inl hj)
    ·exact .inr (.inr (.inl hj))
    ·exact .inr (.inr (.inr (.inl hj)))
    ·exact .inr (.inr (.inr (.inr (.inl hj))))
    ·exact .inr (.inr (.inr (.inr (.inr (.inl hj)))))
    ·exact .inr (.inr (.inr (.inr (.inr (.inr (.inl hj))))))
    ·exact .inr (.inr (.inr (.inr (.inr (.inr (.inr (by rw [hfv];exact hj)))))))
   clear hE hC hN hrm hrm2 hroom hx hk1 hu hs htr1 hrow hfv hform m HT HRM;go_wp2_with fail;go_ret2;exact HE.out
end Go.Proofs.YtpfafhmkbcahhaaGreat
namespace Go.Proofs.YtpfafhmkbcahhaaGreat
section
variable {P:Program} {ops:Array Oper} {Q:Exit->Act->World->Prop} {md:Region.Mode} {S E:World->Prop} {Ks:List Nat}
def noneB (L:Array Bool) (Ks:List Nat):Bool:=Ks.all fun k=>!L.getD k false
theorem noneB_set {L:Array Bool} {i:Nat} (h:i∉Ks):noneB (L.setIfInBounds i true) Ks=noneB L Ks:=by
 unfold noneB
 induction Ks with
 | nil=>rfl
 | cons k t ih =>
  simp only [List.mem_cons,not_or] at h
  simp only [List.all_cons]
  rw [ih h.2,getD_set_ne false h.1]
def wpAnyU (P:Program) (md:Region.Mode) (ops:Array Oper) (Q:Exit->Act->World->Prop) (S E:World->Prop) (Ks:List Nat):Nat->Array Bool->Act->World->Prop
 | 0,L,a,w=>Region.ready md ops L=[]/\Q .normal a w
 | fuel+1,L,a,w =>
  (Region.ready md ops L=[]->Q .normal a w) /\
  ∀ i,i∈Region.ready md ops L->wpOp P ops Q i (fun a' w'=>(S w'/\(noneB (L.setIfInBounds i true) Ks=true->E w'))/\wpAnyU P md ops Q S E Ks fuel (L.setIfInBounds i true) a' w') a w
theorem wpAny_of_until:∀ (fuel:Nat) (L:Array Bool) (a:Act) (w:World),wpAnyU P md ops Q S E Ks fuel L a w->wpAny P md ops Q fuel L a w
 | 0,_,_,_,h=>h
 | fuel+1,_,_,_,h=>⟨h.1,fun i hi=>wpOp_mono (fun a' w' h'=>wpAny_of_until fuel _ a' w' h'.2) (h.2 i hi)⟩
theorem wpAnyU_first {C:World->Prop} {G:Array Bool->Prop} {i:Nat} {oi:Oper} {v:Value} (hi:ops[i]?=some oi) (hsel:∀ (j:Nat) (o:Oper) cs b,ops[j]?=some o->o.op≠.select cs b)
  (hQ:∀ c a w,Q (.panic c) (a.put oi.dst v) w->Q (.panic c) a w) (hik:i∉Ks)
  (hGs:∀ L,i∈Region.ready md ops L->G L->∀ j,j∈Region.ready md ops L->j≠i->G (L.setIfInBounds j true))
  (hCG:∀ L w,G L->S w->(noneB L Ks=true->E w)->C w) :
  ∀ (fuel:Nat) (L:Array Bool) (a:Act) (w:World),
   (∀ j oj,ops[j]?=some oj->j≠i->L.getD j true=false->(∀ e,e∈oj.after->Region.binds md e=true->e.on≠i)->oi.apart ops oj=true) ->
   i∈Region.ready md ops L->YieldsIf P ops C oi v a->S w->(noneB L Ks=true->E w)->G L ->
   wpAnyU P md ops Q S E Ks fuel (L.setIfInBounds i true) (a.put oi.dst v) w->wpAnyU P md ops Q S E Ks (fuel+1) L a w:=by
 intro fuel
 induction fuel with
 | zero =>
  intro L a w _ hr hy hS hE hg H
  refine ⟨fun h=>(by rw [h] at hr;cases hr),fun j hj=>?_⟩
  by_cases hji:j=i
  ·subst hji;exact hy.wpOp hi (hCG L w hg hS hE) ⟨⟨hS,fun hn=>hE (by rw [<- noneB_set hik];exact hn)⟩,H⟩
  ·have:=ready_mono hj hji
   rw [H.1] at this;cases this
 | succ fuel ih =>
  intro L a w hfree hr hy hS hE hg H
  refine ⟨fun h=>(by rw [h] at hr;cases hr),fun j hj=>?_⟩
  by_cases hji:j=i
  ·subst hji;exact hy.wpOp hi (hCG L w hg hS hE) ⟨⟨hS,fun hn=>hE (by rw [<- noneB_set hik];exact hn)⟩,H⟩
  ·have h1:=H.2 j (ready_mono hj hji)
   obtain ⟨hjun,oj,hoj,hall⟩:=mem_ready.1 hj
   have hnot:∀ e,e∈oj.after->Region.binds md e=true->e.on≠i:=fun e he hb heq=>by
    have h1:=hall e he hb;have h0:=(mem_ready.1 hr).1;rw [heq] at h1
    rcases Nat.lt_or_ge i L.size with h' | h'
    ·simp [h'] at h0 h1;rw [h0] at h1;cases h1
    ·simp [Array.getElem?_eq_none h'] at h1
   have h2:=wpOp_putIf hoj (hfree j oj hoj hji hjun hnot) (fun cs b=>hsel i oi cs b hi) (fun cs b=>hsel j oj cs b hoj) hQ hy h1
   have hfree':∀ k ok,ops[k]?=some ok->k≠i->(L.setIfInBounds j true).getD k true=false ->
     (∀ e,e∈ok.after->Region.binds md e=true->e.on≠i)->oi.apart ops ok=true:=fun k ok hk hki hun hno=>by
    refine hfree k ok hk hki ?_ hno
    by_cases hjk:j=k
    ·subst hjk;exact hjun
    ·rw [getD_set_ne true hjk] at hun;exact hun
   refine wpOp_mono (fun a' w' h3=>?_) h2;obtain ⟨hy',⟨hS',hE'⟩,hW⟩:=h3
   have hE2:noneB (L.setIfInBounds j true) Ks=true->E w':=fun hn=>hE' (by rw [Array.setIfInBounds_comm _ _ (Ne.symm hji),noneB_set hik];exact hn)
   refine ⟨⟨hS',hE2⟩,ih (L.setIfInBounds j true) a' w' hfree' (ready_mono hr (Ne.symm hji)) hy' hS' hE2 (hGs L hr hg j hj hji) ?_⟩;rw [Array.setIfInBounds_comm _ _ hji];exact hW
def waitsB (md:Region.Mode) (ops:Array Oper) (Ks:List Nat) (i:Nat):Bool :=
 Ks.all fun k=>(k != i)&&(match ops[k]? with | some o=>o.after.any (fun e=>Region.binds md e&&(e.on == i)) | none=>false)
theorem waitsB_mem {i k:Nat} (h:waitsB md ops Ks i=true) (hk:k∈Ks):k≠i/\∃ o,ops[k]?=some o/\∃ e,e∈o.after/\Region.binds md e=true/\e.on=i:=by
 have h1:=List.all_eq_true.1 h k hk
 simp only [Bool.and_eq_true,bne_iff_ne,ne_eq] at h1
 refine ⟨h1.1,?_⟩;have h2:=h1.2
 cases ho:ops[k]? with
 | none=>rw [ho] at h2;cases h2
 | some o =>
  rw [ho] at h2;obtain ⟨e,he,hb⟩:=Array.any_eq_true'.1 h2
  simp only [Bool.and_eq_true,beq_iff_eq] at hb
  exact ⟨o,rfl,e,he,hb.1,hb.2⟩
theorem wpAnyU_takeS {i:Nat} {oi:Oper} {v:Value} {fuel:Nat} {L:Array Bool} {a:Act} {w:World} (hi:ops[i]?=some oi)
  (hs:Region.noSelect ops=true) (hf:Region.free md ops L i=true) (hr:(Region.ready md ops L).contains i=true) (hik:Ks.contains i=false)
  (hQ:∀ c a w,Q (.panic c) (a.put oi.dst v) w->Q (.panic c) a w) (hy:YieldsIf P ops S oi v a) (hS:S w) (hE:noneB L Ks=true->E w)
  (h:wpAnyU P md ops Q S E Ks fuel (L.setIfInBounds i true) (a.put oi.dst v) w):wpAnyU P md ops Q S E Ks (fuel+1) L a w :=
 wpAnyU_first (C:=S) (G:=fun _=>True) hi (Region.noSelect_spec hs) hQ (fun hm=>by simp [hm] at hik) (fun _ _ _ _ _ _=>trivial) (fun _ _ _ hS _=>hS) fuel L a w (Region.free_spec hi hf) (by simpa using hr) hy hS hE trivial h
theorem wpAnyU_takeE {i:Nat} {oi:Oper} {v:Value} {fuel:Nat} {L:Array Bool} {a:Act} {w:World} (hi:ops[i]?=some oi)
  (hs:Region.noSelect ops=true) (hf:Region.free md ops L i=true) (hr:(Region.ready md ops L).contains i=true) (hik:Ks.contains i=false) (hwt:waitsB md ops Ks i=true) (hn:noneB L Ks=true)
  (hQ:∀ c a w,Q (.panic c) (a.put oi.dst v) w->Q (.panic c) a w) (hy:YieldsIf P ops E oi v a) (hS:S w) (hE:noneB L Ks=true->E w)
  (h:wpAnyU P md ops Q S E Ks fuel (L.setIfInBounds i true) (a.put oi.dst v) w):wpAnyU P md ops Q S E Ks (fuel+1) L a w :=
 wpAnyU_first (C:=E) (G:=fun L=>noneB L Ks=true) hi (Region.noSelect_spec hs) hQ (fun hm=>by simp [hm] at hik) (fun L hri hg j hj hji=>by
  refine (noneB_set fun hjK=>?_).trans hg;obtain ⟨_,o,ho,e,he,hb,heq⟩:=waitsB_mem hwt hjK;obtain ⟨_,o',ho',hall⟩:=mem_ready.1 hj
  rw [ho] at ho';cases ho'
  have h1:=hall e he hb;have h0:=(mem_ready.1 hri).1;rw [heq] at h1
  rcases Nat.lt_or_ge i L.size with h' | h'
  ·simp [h'] at h0 h1;rw [h0] at h1;cases h1
  ·simp [Array.getElem?_eq_none h'] at h1) (fun _ _ hg _ hE=>hE hg) fuel L a w (Region.free_spec hi hf) (by simpa using hr) hy hS hE hn h
def AllReadyU (P:Program) (md:Region.Mode) (ops:Array Oper) (Q:Exit->Act->World->Prop) (S E:World->Prop) (Ks:List Nat) (fuel:Nat) (L:Array Bool) (a:Act) (w:World) (rs:List Nat):Prop :=
 ∀ i,i∈rs->wpOp P ops Q i (fun a' w'=>(S w'/\(noneB (L.setIfInBounds i true) Ks=true->E w'))/\wpAnyU P md ops Q S E Ks fuel (L.setIfInBounds i true) a' w') a w
theorem AllReadyU.nil {fuel:Nat} {L:Array Bool} {a:Act} {w:World}:AllReadyU P md ops Q S E Ks fuel L a w []:=fun _ h=>by cases h
theorem AllReadyU.cons {fuel:Nat} {L:Array Bool} {a:Act} {w:World} {i:Nat} {o:Oper} {rs:List Nat} (ho:ops[i]?=some o)
  (h:∀ K':Act->World->Prop,Shut (∀ a w,(S w/\(noneB (L.setIfInBounds i true) Ks=true->E w))->((S w/\(noneB (L.setIfInBounds i true) Ks=true->E w))->wpAnyU P md ops Q S E Ks fuel (L.setIfInBounds i true) a w)->K' a w)->if Region.wanted o (yielded ops a.tmps)=true then Oper.wp P o a w K' Q else K' (a.put o.dst undef) w)
  (hs:AllReadyU P md ops Q S E Ks fuel L a w rs):AllReadyU P md ops Q S E Ks fuel L a w (i::rs):=fun j hj=>by
 rcases List.mem_cons.1 hj with rfl | hj
 ·exact wpOp_step ho (fun K' hK=>h K' (fun a w hS hW=>hK a w ⟨hS,hW hS⟩))
 ·exact hs j hj
theorem wpAnyU_ready {rs:List Nat} {fuel:Nat} {L:Array Bool} {a:Act} {w:World} (hr:Region.ready md ops L=rs) (hne:rs≠[])
  (h:AllReadyU P md ops Q S E Ks fuel L a w rs):wpAnyU P md ops Q S E Ks (fuel+1) L a w:=⟨fun h0=>absurd (hr ▸ h0) hne,hr ▸ h⟩
theorem wpAnyU_done {L:Array Bool} {a:Act} {w:World} (hr:Region.ready md ops L=[]) (h:Q .normal a w) :
  ∀ fuel,wpAnyU P md ops Q S E Ks fuel L a w
 | 0=>⟨hr,h⟩
 | _+1=>⟨fun _=>h,by rw [hr];simp⟩
theorem wp_region_until {id:Nat} {a:Act} {w:World} (S E:World->Prop) (Ks:List Nat) (hm:P.follows .mixedOrders=true)
  (h:wpAnyU P .any ops Q S E Ks ops.size (Array.replicate ops.size false) a w.drew):(Code.region id ops true).wp P Q a w :=
 wp_region_any hm (wpAny_of_until _ _ _ _ h)
end
theorem noE {b:Bool} {p:Prop} (hb:b=false) (h:b=true):p:=by rw [hb] at h;cases h
end Go.Proofs.YtpfafhmkbcahhaaGreat
namespace Go.Proofs.YtpfafhmkbcahhaaGreat
open Go.RowKit Go.Maps Go.ChangeMaps Go.WideShapes
def KV.rootsI (K:KV) (i:Nat):List Nat:=(List.range i).filter fun r=>decide (0<K.hold r)
def KV.roots (K:KV):List Nat:=K.rootsI K.holds.length
theorem KV.rootsI_succ (K:KV) (i:Nat):K.rootsI (i+1)=if 0<K.hold i then K.rootsI i++[i] else K.rootsI i:=by
 unfold KV.rootsI;rw [List.range_succ,List.filter_append]
 by_cases h:0<K.hold i
 ·simp [h]
 ·simp [h]
theorem KV.rootsI_len (K:KV) (i:Nat):(K.rootsI i).length<=i:=by
 have:=List.length_filter_le (fun r=>decide (0<K.hold r)) (List.range i)
 simpa [KV.rootsI] using this
theorem KV.mem_roots {K:KV} {r:Nat}:r∈K.roots↔0<K.hold r:=by
 simp only [KV.roots,KV.rootsI,List.mem_filter,List.mem_range,decide_eq_true_eq]
 refine ⟨fun h=>h.2,fun h=>⟨?_,h⟩⟩
 by_cases hl:r<K.holds.length
 ·exact hl
 ·have:K.hold r=0:=by
   unfold KV.hold
   rw [List.getD_eq_getElem?_getD,List.getElem?_eq_none (by omega)];rfl
  omega
theorem KV.roots_nodup (K:KV):K.roots.Nodup:=List.Pairwise.filter _ List.nodup_range
theorem roots_spec (b:Nat) (K:KV) (T:List DM) (q:KPtr) (w:World) (h:KerIn w b K T q) :
  Calls Tryz.prog 51 #[.pointer (some ⟨b,0,none⟩)] w fun e w'=>∃ v:Value,e=.returned v/\w'.ownsRow w.heap.size 54 1 v K.roots.length (flatRefs K.roots)/\Upd [] w w':=by
 have hsz:K.holds.length<=1048576:=by
  have h1:=h.ok.wf.len;have h2:=h.ok.wf.ul;have h3:=h.ok.wf.ok.lp;have h4:=h.ok.wf.ok.pm;omega
 obtain ⟨fa,fc,hhv,_⟩:=row_nil_len h.mem.hs
 have c3:w.cell? ⟨b,3,none⟩=some (.slice fa K.holds.length fc):=by rw [<- hhv];exact cell_at h.mem.blk rfl
 have hrow:=h.mem.hs;rw [hhv] at hrow;have HROW:=Lib.hid hrow;obtain ⟨ti,hi0,hz0,hz1',hz2⟩:=info_parts Tryz.infoRefA;have HI:=Lib.hid hi0;have HZ:=Lib.hid hz0;have HZ1:=Lib.hid hz1';have HZ2:=Lib.hid hz2;have HHM:=Lib.hid h.ok.wf.hm;clear h hhv hrow hi0 hz0 hz1' hz2
 go_enter Tryz.func51,Tryz.ntmps51
 go_wp2_with fail
 go_loopg [3,14] K.holds.length (fun g s3 s14 wr=>∃ i:Nat,K.holds.length-i=g/\i<=K.holds.length/\s14=.int .i64 i/\wr.ownsRow w.heap.size 54 1 s3 (K.rootsI i).length (flatRefs (K.rootsI i))/\Upd [] w wr)
 case atStart=>exact ⟨0,by omega,by omega,rfl,World.ownsRow_nil _ _ _ _,Upd.refl _ _⟩
 case round =>
  obtain ⟨i,rfl,hi,rfl,ho,hU⟩:=hrel
  by_cases hlt:i<K.holds.length
  ·obtain ⟨g,rfl⟩:=row_some HROW.out (by omega)
   have hr:=row_keep HROW.out fun k hk=>hU.block k (HROW.out.lt k hk).2 (by simp)
   have ch:wr.cell? ⟨g,i,none⟩=some (.int .i32 (K.hold i)):=row_cell hr (by simp [flat32,KV.hold,hlt])
   have hil:(i:Int)<(K.holds.length:Int):=by omega
   have HU:=Lib.hid hU
   have hw32:i<=4294967295:=by omega
   by_cases h0:0<K.hold i
   ·have HS:Hid (K.rootsI (i+1)=K.rootsI i++[i]):=by
     show K.rootsI (i+1)=_
     rw [K.rootsI_succ,if_pos h0]
    have hln:=K.rootsI_len i;obtain ⟨va,vc,hv,_⟩:=row_nil_len ho;subst hv;have HO:=Lib.hid ho
    have hd:(0:Int)<(K.hold i:Int):=by omega
    have HC2:Hid (∀ u,u∈[Value.int .u32 i]->u.oneCell'=true):=by intro u hu;simp at hu;subst hu;rfl
    have hsz2:=hU.size
    have hmod:(i:Int) % 4294967296=i:=by omega
    have hbs:w.heap.size<=(wr.alloc (.cells #[.int .u32 i] 54 (0,0))).heap.size:=by rw [World.size_alloc];omega
    clear ho hU hr
    go_wp2_with (at_builtin;go_must (refine wpList_append_lies _ rfl (.tmp 21) (.tmp 24) 28 rfl w.heap.size 54 ti _ 1 4 Tryz.underlying28 HI.out HZ.out HZ1.out HZ2.out (by rfl) (by decide) _ (K.rootsI i).length (flatRefs (K.rootsI i)) rfl (HO.out.alloc _) ⟨wr.heap.size,0,none⟩ 1 1 [.int .u32 i] rfl rfl ?c1 HC2.out (by omega) (by unfold maxLen;omega) (by omega) hbs _ rfl ?_))
    case c1=>exact World.news_of_block (heap_alloc_new wr (.cells #[.int .u32 i] 54 (0,0)))
    intro g5 cap w5 hown hgr hat hlt5
    have HE:Hid (w5.ownsRow w.heap.size 54 1 (.slice (some ⟨g5,0,none⟩) ((K.rootsI i).length+1) cap) (K.rootsI (i+1)).length (flatRefs (K.rootsI (i+1)))/\Upd [] w w5):=by
     rw [HS.out];refine ⟨by simpa [flatRefs] using hown,(HU.out.alloc _).grown hgr fun k hk=>.inr ?_⟩;exact (HO.out.lt k hk).1
    clear hown hgr hat hlt5;go_wp2_with fail
    go_roundg (K.holds.length-(i+1))
    case measure=>omega
    case rel=>exact ⟨i+1,rfl,by omega,by simp,HE.out.1,HE.out.2⟩
   ·have HS:Hid (K.rootsI (i+1)=K.rootsI i):=by
     show K.rootsI (i+1)=_
     rw [K.rootsI_succ,if_neg h0]
    have hd:¬ ((0:Int)<(K.hold i:Int)):=by omega
    have hd2:decide ((0:Int)<(K.hold i:Int))=false:=by simp;omega
    have HO:=Lib.hid ho;clear ho hU hr;go_wp2_with fail
    go_roundg (K.holds.length-(i+1))
    case measure=>omega
    case rel=>exact ⟨i+1,rfl,by omega,by simp,by rw [HS.out];exact HO.out,HU.out⟩
  ·obtain rfl:i=K.holds.length:=by omega
   have hil:¬ ((K.holds.length:Int)<(K.holds.length:Int)):=by omega
   have HE:=Lib.hid (And.intro ho hU);clear ho hU;go_wp2_with fail;go_ret;exact ⟨_,rfl,HE.out⟩
theorem zeroInt (w:World):(zeroValue 3).run Tryz.prog w=.ok (.int .i64 0) w:=by kernel_rfl
theorem Tryz.infoU64:(Tryz.prog.info? 96).map (fun i=>(i.zero,i.size,i.bytes))=some (some (.int .u64 0),1,8):=by kernel_rfl
def flatU (l:List Int):List Value:=l.map fun n=>Value.int .u64 n
def bitT (s:Int) (v:Nat):Bool:=bits BinOp.and IntKind.u64 (s/2 ^ v) 1 == 1
theorem madeU (n:Nat):(madeCells #[Value.int .u64 0] n).toList=List.replicate n (Value.int .u64 0):=by
 apply List.ext_getElem?
 intro i
 by_cases hi:i<n
 ·simp [madeCells,hi,Nat.mod_one]
 ·simp [madeCells,hi]
def U64 (x:Int):Prop:=0<=x/\x<18446744073709551616
theorem wrap_u64 (n:Int):U64 (IntKind.u64.wrap n):=by
 have e:IntKind.u64.wrap n=n % 18446744073709551616:=rfl
 rw [e];unfold U64;omega
theorem bits_u64 (op:BinOp) (x y:Int):U64 (bits op IntKind.u64 x y):=wrap_u64 _
def nb (x:Int) (i:Nat):Bool:=x.toNat.testBit i
theorem toNat_bv {x:Int} (h:U64 x):(BitVec.ofInt 64 x).toNat=x.toNat:=by
 unfold U64 at h;rw [BitVec.toNat_ofInt]
 have:x % (2 ^ 64:Nat)=x:=by omega
 rw [this]
theorem nb_bv {x:Int} (h:U64 x) (i:Nat):nb x i=(BitVec.ofInt 64 x).getLsbD i:=by
 unfold nb;rw [<- toNat_bv h,BitVec.testBit_toNat]
theorem nb_of_bv (B:BitVec 64) (i:Nat):nb ((B.toNat:Int) % 18446744073709551616) i=B.getLsbD i:=by
 have h:=B.isLt
 have:((B.toNat:Int) % 18446744073709551616).toNat=B.toNat:=by omega
 unfold nb;rw [this,BitVec.testBit_toNat]
theorem nb_or {x y:Int} (hx:U64 x) (hy:U64 y) (i:Nat):nb (bits BinOp.or IntKind.u64 x y) i=(nb x i||nb y i):=by
 rw [nb_bv hx,nb_bv hy,<- BitVec.getLsbD_or];exact nb_of_bv (BitVec.ofInt 64 x ||| BitVec.ofInt 64 y) i
theorem nb_and {x y:Int} (hx:U64 x) (hy:U64 y) (i:Nat):nb (bits BinOp.and IntKind.u64 x y) i=(nb x i&&nb y i):=by
 rw [nb_bv hx,nb_bv hy,<- BitVec.getLsbD_and];exact nb_of_bv (BitVec.ofInt 64 x &&& BitVec.ofInt 64 y) i
theorem nb_andNot {x y:Int} (hx:U64 x) (hy:U64 y) {i:Nat} (hi:i<64):nb (bits BinOp.andNot IntKind.u64 x y) i=(nb x i&&!nb y i):=by
 rw [nb_bv hx,nb_bv hy];have e:nb (bits BinOp.andNot IntKind.u64 x y) i=(BitVec.ofInt 64 x &&& ~~~BitVec.ofInt 64 y).getLsbD i:=nb_of_bv _ i;rw [e,BitVec.getLsbD_and,BitVec.getLsbD_not,decide_eq_true hi,Bool.true_and]
theorem nb_pow {n:Nat} (hn:n<64) (i:Nat):nb (IntKind.u64.wrap (2 ^ n)) i=decide (n=i):=by
 have e:IntKind.u64.wrap ((2:Int) ^ n)=(2:Int) ^ n % 18446744073709551616:=rfl;have h1:(2:Nat) ^ n<2 ^ 64:=Nat.pow_lt_pow_right (by omega) hn
 have h2:((2:Int) ^ n)=((2 ^ n:Nat):Int):=by push_cast;rfl
 have h3:((2:Int) ^ n % 18446744073709551616).toNat=2 ^ n:=by rw [h2];generalize (2:Nat) ^ n=m at h1 ⊢;omega
 rw [e];unfold nb;rw [h3,Nat.testBit_two_pow]
theorem nb_zero (i:Nat):nb 0 i=false:=by simp [nb]
theorem nb_ext {x y:Int} (hx:U64 x) (hy:U64 y) (h:∀ i,i<64->nb x i=nb y i):x=y:=by
 have:x.toNat=y.toNat:=by
  apply Nat.eq_of_testBit_eq
  intro i
  by_cases hi:i<64
  ·exact h i hi
  ·have l:∀ z:Int,U64 z->z.toNat.testBit i=false:=fun z hz=>by
    apply Nat.testBit_lt_two_pow
    have h1:(2:Nat) ^ 64<=2 ^ i:=Nat.pow_le_pow_right (by omega) (by omega)
    unfold U64 at hz;omega
   rw [l x hx,l y hy]
 unfold U64 at hx hy;omega
theorem bitT_nb {x:Int} (hx:U64 x) (v:Nat):bitT x v=nb x v:=by
 obtain ⟨n,rfl⟩ : ∃ n:Nat,x=(n:Int):=⟨x.toNat,by unfold U64 at hx;omega⟩
 have hn:n<18446744073709551616:=by unfold U64 at hx;omega
 have e:((n:Int)/2 ^ v)=((n/2 ^ v:Nat):Int):=by push_cast;rfl
 have hu:U64 ((n:Int)/2 ^ v):=by
  rw [e];have:=Nat.div_le_self n (2 ^ v);generalize n/2 ^ v=m at this ⊢;unfold U64;omega
 have h1:U64 1:=by unfold U64;omega
 have hbit:nb ((n:Int)/2 ^ v) 0=nb (n:Int) v:=by
  rw [e];unfold nb
  simp only [Int.toNat_natCast]
  rw [Nat.testBit_div_two_pow,Nat.zero_add]
 have h2:∀ i,nb (bits BinOp.and IntKind.u64 ((n:Int)/2 ^ v) 1) i=(nb ((n:Int)/2 ^ v) i&&decide (i=0)):=fun i=>by
  rw [nb_and hu h1]
  congr 1
  have:nb 1 i=decide (0=i):=nb_pow (n:=0) (by omega) i
  rw [this];by_cases h:i=0 <;> simp [h];omega
 have hW:=bits_u64 BinOp.and ((n:Int)/2 ^ v) 1;unfold bitT
 cases hb:nb (n:Int) v with
 | true =>
  have:bits BinOp.and IntKind.u64 ((n:Int)/2 ^ v) 1=1:=nb_ext hW h1 fun i _=>by
   have e1:nb 1 i=decide (0=i):=nb_pow (n:=0) (by omega) i;rw [h2,e1]
   by_cases h:i=0
   ·subst h;rw [hbit,hb];rfl
   ·simp [h];omega
  rw [this];rfl
 | false =>
  have:bits BinOp.and IntKind.u64 ((n:Int)/2 ^ v) 1=0:=nb_ext hW (by unfold U64;omega) fun i _=>by
   rw [h2,nb_zero]
   by_cases h:i=0
   ·subst h;rw [hbit,hb];rfl
   ·simp [h]
  rw [this];rfl
def Hangs (t:(Nat->Bool)->Bool) (v:Nat):Prop:=∃ y,t (upd y v true)≠t (upd y v false)
end Go.Proofs.YtpfafhmkbcahhaaGreat
namespace Go.Proofs.YtpfafhmkbcahhaaGreat
structure TV where
 n:Nat
 ws:List Int
deriving DecidableEq
def wordsN (n:Nat):Nat:=if n<=6 then 1 else 2 ^ (n-6)
structure TV.Ok (t:TV):Prop where
 n16:t.n<=16
 len:t.ws.length=wordsN t.n
 u:∀ x,x∈t.ws->U64 x
 low:t.n<6->∀ x,x∈t.ws->∀ i,2 ^ t.n<=i->nb x i=false
def TV.bit (t:TV) (x:Nat):Bool:=nb (t.ws.getD (x/64) 0) (x % 64)
theorem nb_high {x:Int} (h:U64 x) {i:Nat} (hi:64<=i):nb x i=false:=by
 apply Nat.testBit_lt_two_pow
 have h1:(2:Nat) ^ 64<=2 ^ i:=Nat.pow_le_pow_right (by omega) hi
 unfold U64 at h;omega
theorem wordsN_pos (n : Nat) : 0 < wordsN n := by unfold wordsN; split; · omega
                                                  · exact Nat.two_pow_pos _
theorem wordsN_mul {n:Nat} (h:6<=n):wordsN n*64=2 ^ n:=by
 unfold wordsN;split
 ·obtain rfl:n=6:=by omega
  rfl
 ·have:n=(n-6)+6:=by omega
  rw [this,Nat.pow_add];simp
theorem TV.Ok.word {t:TV} (h:t.Ok) {i:Nat} (hi:i<wordsN t.n):U64 (t.ws.getD i 0)/\t.ws.getD i 0∈t.ws/\t.ws[i]?=some (t.ws.getD i 0):=by
 have hl:i<t.ws.length:=by rw [h.len];exact hi
 have e:t.ws[i]?=some (t.ws.getD i 0):=by rw [List.getD_eq_getElem?_getD,List.getElem?_eq_getElem hl];rfl
 have hm:=List.mem_of_getElem? e;exact ⟨h.u _ hm,hm,e⟩
theorem div64_lt {n x:Nat} (hx:x<2 ^ n):x/64<wordsN n:=by
 by_cases h:6<=n
 ·have:=wordsN_mul h;omega
 ·have:(2:Nat) ^ n<=2 ^ 6:=Nat.pow_le_pow_right (by omega) (by omega)
  unfold wordsN;rw [if_pos (by omega)];omega
theorem TV.ext {t u:TV} (ht:t.Ok) (hu:u.Ok) (hn:t.n=u.n) (h:∀ x,x<2 ^ t.n->t.bit x=u.bit x):t=u:=by
 obtain ⟨n,ws⟩:=t;obtain ⟨m,vs⟩:=u
 simp only at hn;subst hn
 congr 1
 apply List.ext_getElem?
 intro i
 by_cases hi:i<wordsN n
 ·obtain ⟨a1,a2,a3⟩:=ht.word (i:=i) hi
  obtain ⟨b1,b2,b3⟩:=hu.word (i:=i) hi
  show ws[i]?=vs[i]?
  have a3':ws[i]?=some (ws.getD i 0):=a3;have b3':vs[i]?=some (vs.getD i 0):=b3;rw [a3',b3']
  congr 1
  refine nb_ext a1 b1 fun j hj=>?_
  by_cases h6:6<=n
  ·have hw:=wordsN_mul h6
   have:=h (64*i+j) (by show 64*i+j<2 ^ n;omega);unfold TV.bit at this;rw [show (64*i+j)/64=i by omega,show (64*i+j) % 64=j by omega] at this;exact this
  ·have hi0:i=0:=by unfold wordsN at hi;rw [if_pos (by omega)] at hi;omega
   subst hi0
   by_cases hj2:j<2 ^ n
   ·have:=h j hj2
    unfold TV.bit at this;rw [show j/64=0 by omega,show j % 64=j by omega] at this;exact this
   ·rw [ht.low (by simpa using h6) _ a2 j (by simpa using hj2),hu.low (by simpa using h6) _ b2 j (by simpa using hj2)]
 ·have e1:=ht.len
  have e2:=hu.len
  simp only at e1 e2
  rw [List.getElem?_eq_none (by omega),List.getElem?_eq_none (by omega)]
def idx:Nat->(Nat->Bool)->Nat
 | 0,_=>0
 | n+1,y=>idx n y+if y n then 2 ^ n else 0
theorem idx_lt:∀ (n:Nat) (y:Nat->Bool),idx n y<2 ^ n
 | 0,_=>by simp [idx]
 | n+1,y=>by
  have:=idx_lt n y
  have e:(2:Nat) ^ (n+1)=2 ^ n+2 ^ n:=by rw [Nat.pow_succ];omega
  unfold idx;split <;> omega
theorem idx_bit:∀ (n:Nat) (y:Nat->Bool) (v:Nat),(idx n y).testBit v=(decide (v<n)&&y v)
 | 0,y,v=>by simp [idx]
 | n+1,y,v=>by
  have hl:=idx_lt n y;have ih:=idx_bit n y v;unfold idx
  by_cases hy:y n=true
  ·rw [if_pos hy,Nat.add_comm]
   by_cases hv:v=n
   ·subst hv
    rw [Nat.testBit_two_pow_add_eq,Nat.testBit_lt_two_pow hl]
    simp [hy]
   ·by_cases hvn:v<n
    ·rw [Nat.testBit_two_pow_add_gt hvn,ih]
     simp [hvn,show v<n+1 by omega]
    ·have h2:2 ^ n+idx n y<2 ^ v:=by
      have e:(2:Nat) ^ (n+1)=2 ^ n+2 ^ n:=by rw [Nat.pow_succ];omega
      have:(2:Nat) ^ (n+1)<=2 ^ v:=Nat.pow_le_pow_right (by omega) (by omega);omega
     rw [Nat.testBit_lt_two_pow h2]
     simp [show ¬ v<n+1 by omega]
  ·rw [if_neg hy,Nat.add_zero,ih]
   by_cases hv:v=n
   ·subst hv;simp [hy]
   ·have:(v<n)↔(v<n+1):=by omega
    simp [this]
theorem idx_of {n x:Nat} (hx:x<2 ^ n):idx n (fun v=>x.testBit v)=x:=by
 apply Nat.eq_of_testBit_eq
 intro v
 rw [idx_bit]
 by_cases hv:v<n
 ·simp [hv]
 ·have:x<2 ^ v:=Nat.lt_of_lt_of_le hx (Nat.pow_le_pow_right (by omega) (by omega))
  rw [Nat.testBit_lt_two_pow this];simp [hv]
def setb (x v:Nat) (b:Bool):Nat:=if x.testBit v=b then x else if b then x+2 ^ v else x-2 ^ v
theorem tb_add {x v:Nat} (h:x.testBit v=false) (u:Nat):(x+2 ^ v).testBit u=if u=v then true else x.testBit u:=by
 by_cases hu:u=v
 ·subst hu;rw [if_pos rfl,Nat.add_comm,Nat.testBit_two_pow_add_eq,h];rfl
 ·rw [if_neg hu]
  have e:x+2 ^ v=x ||| 2 ^ v:=by
   have hd:=Nat.div_add_mod x (2 ^ (v+1))
   have hm:x % 2 ^ (v+1)<2 ^ v:=by
    have h1:x % 2 ^ (v+1)<2 ^ (v+1):=Nat.mod_lt _ (Nat.two_pow_pos _)
    have h2:(x % 2 ^ (v+1)).testBit v=false:=by rw [Nat.testBit_mod_two_pow,h];simp
    by_cases hge:2 ^ v<=x % 2 ^ (v+1)
    ·exfalso
     have e2:(2:Nat) ^ (v+1)=2 ^ v+2 ^ v:=by rw [Nat.pow_succ];omega
     have e3:x % 2 ^ (v+1)=2 ^ v+(x % 2 ^ (v+1)-2 ^ v):=by omega
     rw [e3,Nat.testBit_two_pow_add_eq,Nat.testBit_lt_two_pow (by omega)] at h2;cases h2
    ·omega
   apply Nat.eq_of_testBit_eq
   intro i
   have e4:x+2 ^ v=2 ^ (v+1)*(x/2 ^ (v+1))+(2 ^ v+x % 2 ^ (v+1)):=by omega
   have e5:2 ^ v+x % 2 ^ (v+1)<2 ^ (v+1):=by
    have e2:(2:Nat) ^ (v+1)=2 ^ v+2 ^ v:=by rw [Nat.pow_succ];omega
    omega
   rw [e4,Nat.testBit_two_pow_mul_add _ e5,Nat.testBit_or,Nat.testBit_two_pow];have h6:=Nat.testBit_mod_two_pow x (v+1) i
   have h7:x.testBit i=if i<v+1 then (x % 2 ^ (v+1)).testBit i else (x/2 ^ (v+1)).testBit (i-(v+1)):=by
    split
    ·rename_i hi;rw [h6];simp [hi]
    ·rename_i hi;rw [Nat.testBit_div_two_pow];congr 1;omega
   rw [h7]
   by_cases hi:i<v+1
   ·rw [if_pos hi,if_pos hi]
    by_cases hiv:i=v
    ·subst hiv;rw [Nat.testBit_two_pow_add_eq,Nat.testBit_lt_two_pow hm];simp
    ·rw [Nat.testBit_two_pow_add_gt (by omega)];simp [Ne.symm hiv]
   ·rw [if_neg hi,if_neg hi]
    have:¬ v=i:=by omega
    simp [this]
  rw [e,Nat.testBit_or,Nat.testBit_two_pow]
  simp [Ne.symm hu]
theorem setb_bit (x v:Nat) (b:Bool) (u:Nat):(setb x v b).testBit u=if u=v then b else x.testBit u:=by
 unfold setb
 by_cases h:x.testBit v=b
 ·rw [if_pos h]
  by_cases hu:u=v
  ·subst hu;rw [if_pos rfl];exact h
  ·rw [if_neg hu]
 ·rw [if_neg h]
  cases b with
  | true =>
   have h':x.testBit v=false:=by simpa using h
   rw [if_pos rfl,tb_add h']
  | false =>
   have h':x.testBit v=true:=by simpa using h
   have hge:2 ^ v<=x:=Nat.ge_two_pow_of_testBit h'
   have h0:(x-2 ^ v).testBit v=false:=by
    cases e:(x-2 ^ v).testBit v with
    | false=>rfl
    | true =>
     have:=Nat.testBit_two_pow_add_eq (x-2 ^ v) v
     rw [Nat.add_comm,Nat.sub_add_cancel hge,h',e] at this;cases this
   have:=tb_add h0 u;rw [Nat.sub_add_cancel hge] at this
   simp only [Bool.false_eq_true,if_false]
   by_cases hu:u=v
   ·subst hu;rw [if_pos rfl];exact h0
   ·rw [if_neg hu] at this ⊢;exact this.symm
theorem setb_lt {x v n:Nat} (b:Bool) (hx:x<2 ^ n) (hv:v<n):setb x v b<2 ^ n:=by
 apply Nat.lt_pow_two_of_testBit
 intro i hi
 rw [setb_bit,if_neg (by omega)];exact Nat.testBit_lt_two_pow (Nat.lt_of_lt_of_le hx (Nat.pow_le_pow_right (by omega) hi))
theorem setb_idx {n v:Nat} (hv:v<n) (y:Nat->Bool) (b:Bool):setb (idx n y) v b=idx n (upd y v b):=by
 apply Nat.eq_of_testBit_eq
 intro u
 rw [setb_bit,idx_bit,idx_bit]
 by_cases hu:u=v
 ·subst hu;simp [hv,upd]
 ·simp [hu,upd]
def TV.fn (t:TV) (y:Nat->Bool):Bool:=t.bit (idx t.n y)
theorem TV.fn_ext {t u:TV} (ht:t.Ok) (hu:u.Ok) (hn:t.n=u.n) (h:∀ y,t.fn y=u.fn y):t=u :=
 TV.ext ht hu hn fun x hx=>by
  have:=h fun v=>x.testBit v
  unfold TV.fn at this;rw [idx_of hx,<- hn,idx_of hx] at this;exact this
theorem TV.fn_same (t:TV) {x y:Nat->Bool} (h:∀ v,v<t.n->x v=y v):t.fn x=t.fn y:=by
 have:idx t.n x=idx t.n y:=by
  apply Nat.eq_of_testBit_eq
  intro v
  rw [idx_bit,idx_bit]
  by_cases hv:v<t.n
  ·simp [hv,h v hv]
  ·simp [hv]
 unfold TV.fn;rw [this]
end Go.Proofs.YtpfafhmkbcahhaaGreat
namespace Go.Proofs.YtpfafhmkbcahhaaGreat
open Go.RowKit
def mkT (n:Nat) (f:Nat->Bool):TV:=⟨n,(List.range (wordsN n)).map fun i=>((idx 64 fun j=>decide (64*i+j<2 ^ n)&&f (64*i+j):Nat):Int)⟩
theorem nb_cast (m i:Nat):nb (m:Int) i=m.testBit i:=by simp [nb]
theorem mkT_word (n:Nat) (f:Nat->Bool) {i:Nat} (hi:i<wordsN n):(mkT n f).ws.getD i 0=((idx 64 fun j=>decide (64*i+j<2 ^ n)&&f (64*i+j):Nat):Int):=by
 rw [List.getD_eq_getElem?_getD]
 simp [mkT,hi]
theorem mkT_ok {n:Nat} (f:Nat->Bool) (hn:n<=16):(mkT n f).Ok:=by
 refine ⟨hn,by simp [mkT],fun x hx=>?_,fun h6 x hx i hi=>?_⟩
 ·simp only [mkT,List.mem_map] at hx
  obtain ⟨i,_,rfl⟩:=hx
  have:=idx_lt 64 fun j=>decide (64*i+j<2 ^ n)&&f (64*i+j)
  unfold U64;omega
 ·have h6':n<6:=h6
  have hi':2 ^ n<=i:=hi
  simp only [mkT,List.mem_map,List.mem_range] at hx
  obtain ⟨j,hj,rfl⟩:=hx
  have hj0:j=0:=by unfold wordsN at hj;rw [if_pos (by omega)] at hj;omega
  subst hj0;rw [nb_cast,idx_bit]
  simp;intro _ h;omega
theorem mkT_bit {n:Nat} (f:Nat->Bool) {x:Nat} (hx:x<2 ^ n):(mkT n f).bit x=f x:=by
 unfold TV.bit;rw [mkT_word n f (div64_lt hx),nb_cast,idx_bit]
 have e:64*(x/64)+x % 64=x:=by omega
 simp only [e,hx,decide_true,Bool.true_and]
 have:x % 64<64:=Nat.mod_lt _ (by omega)
 simp [this]
theorem mkT_n (n:Nat) (f:Nat->Bool):(mkT n f).n=n:=rfl
theorem mkT_eq {t:TV} (ht:t.Ok) {f:Nat->Bool} (h:∀ x,x<2 ^ t.n->t.bit x=f x):t=mkT t.n f :=
 TV.ext ht (mkT_ok f ht.n16) rfl fun x hx=>by rw [h x hx,mkT_bit f hx]
theorem mkT_fn {n:Nat} (f:Nat->Bool) (y:Nat->Bool):(mkT n f).fn y=f (idx n y):=by
 unfold TV.fn;rw [mkT_n,mkT_bit f (idx_lt n y)]
def constT (n:Nat) (b:Bool):TV:=mkT n fun _=>b
def varT (n v:Nat):TV:=mkT n fun x=>x.testBit v
def cofT (t:TV) (v:Nat) (b:Bool):TV:=mkT t.n fun x=>t.bit (setb x v b)
theorem constT_fn (n:Nat) (b:Bool) (y:Nat->Bool):(constT n b).fn y=b:=mkT_fn _ y
theorem cofT_fn {t:TV} {v:Nat} (hv:v<t.n) (b:Bool) (y:Nat->Bool):(cofT t v b).fn y=t.fn (upd y v b):=by
 unfold cofT;rw [mkT_fn,setb_idx hv];rfl
theorem cofT_ok {t:TV} (ht:t.Ok) (v:Nat) (b:Bool):(cofT t v b).Ok:=mkT_ok _ ht.n16
def depT (t:TV) (v:Nat):Bool:=!decide (cofT t v false=cofT t v true)
theorem depT_iff {t:TV} (ht:t.Ok) {v:Nat} (hv:v<t.n):depT t v=true↔Hangs t.fn v:=by
 unfold depT;rw [Bool.not_eq_true',decide_eq_false_iff_not];constructor
 ·intro hne
  by_cases hh:∃ y,t.fn (upd y v true)≠t.fn (upd y v false)
  ·exact hh
  ·exfalso
   refine hne (TV.fn_ext (cofT_ok ht v false) (cofT_ok ht v true) rfl fun y=>?_);rw [cofT_fn hv,cofT_fn hv]
   by_cases h:t.fn (upd y v false)=t.fn (upd y v true)
   ·exact h
   ·exact absurd ⟨y,fun e=>h e.symm⟩ hh
 ·rintro ⟨y,hy⟩ e
  exact hy (by rw [<- cofT_fn hv true y,<- cofT_fn hv false y,e])
theorem setb_low {x v:Nat} (b:Bool) (hv:v<6):setb x v b/64=x/64/\setb x v b % 64=setb (x % 64) v b:=by
 constructor
 ·apply Nat.eq_of_testBit_eq
  intro i
  rw [show (64:Nat)=2 ^ 6 from rfl,Nat.testBit_div_two_pow,Nat.testBit_div_two_pow,setb_bit,if_neg (by omega)]
 ·apply Nat.eq_of_testBit_eq
  intro i
  rw [show (64:Nat)=2 ^ 6 from rfl,Nat.testBit_mod_two_pow,setb_bit,setb_bit,Nat.testBit_mod_two_pow]
  by_cases h:i=v
  ·subst h;simp [hv]
  ·simp [h]
theorem u64_zero:U64 0:=by unfold U64;omega
theorem nb_shr {x:Int} (hx:U64 x) (k i:Nat):U64 (x/2 ^ k)/\nb (x/2 ^ k) i=nb x (i+k):=by
 obtain ⟨n,rfl⟩ : ∃ n:Nat,x=(n:Int):=⟨x.toNat,by unfold U64 at hx;omega⟩
 have e:((n:Int)/2 ^ k)=((n/2 ^ k:Nat):Int):=by push_cast;rfl
 refine ⟨?_,?_⟩
 ·rw [e]
  have h1:=Nat.div_le_self n (2 ^ k);generalize n/2 ^ k=m at h1 ⊢
  unfold U64 at hx ⊢;omega
 ·rw [e,nb_cast,nb_cast,Nat.testBit_div_two_pow,Nat.add_comm]
theorem nb_shl {x:Int} (hx:U64 x) (k i:Nat):nb (IntKind.u64.wrap (x*2 ^ k)) i=(decide (i<64)&&(decide (k<=i)&&nb x (i-k))):=by
 obtain ⟨n,rfl⟩ : ∃ n:Nat,x=(n:Int):=⟨x.toNat,by unfold U64 at hx;omega⟩
 have e:IntKind.u64.wrap ((n:Int)*2 ^ k)=((n*2 ^ k % 18446744073709551616:Nat):Int):=by
  have h1:IntKind.u64.wrap ((n:Int)*2 ^ k)=((n:Int)*2 ^ k) % 18446744073709551616:=rfl
  have h2:(n:Int)*2 ^ k=((n*2 ^ k:Nat):Int):=by push_cast;rfl
  rw [h1,h2];generalize n*2 ^ k=m;omega
 rw [e,nb_cast,nb_cast,show (18446744073709551616:Nat)=2 ^ 64 from rfl,Nat.testBit_mod_two_pow,Nat.testBit_mul_two_pow]
def cofW (v:Nat) (b:Bool) (ones w:Int):Int :=
 if b then bits BinOp.or IntKind.u64 (bits BinOp.and IntKind.u64 w ones) (bits BinOp.and IntKind.u64 w ones/2 ^ (2 ^ v))
 else bits BinOp.or IntKind.u64 (bits BinOp.andNot IntKind.u64 w ones) (IntKind.u64.wrap (bits BinOp.andNot IntKind.u64 w ones*2 ^ (2 ^ v)))
theorem low_facts:∀ v,v<6->∀ i,i<64->(((i+2 ^ v).testBit v=!i.testBit v)/\(i.testBit v=true->2 ^ v<=i/\(i-2 ^ v).testBit v=false)/\(2 ^ v<=i->i.testBit v=false->(i-2 ^ v).testBit v=true)):=by decide +kernel
theorem cofW_bit {v:Nat} (hv:v<6) (b:Bool) {ones w:Int} (hw:U64 w) (ho:U64 ones) (hob:∀ i,i<64->nb ones i=i.testBit v):U64 (cofW v b ones w)/\∀ i,i<64->nb (cofW v b ones w) i=nb w (setb i v b):=by
 have p6:(2:Nat) ^ v<=32:=by
  have:(2:Nat) ^ v<=2 ^ 5:=Nat.pow_le_pow_right (by omega) (by omega);omega
 unfold cofW
 cases b with
 | true =>
  rw [if_pos rfl];have hA:=bits_u64 BinOp.and w ones
  have hS:=fun i=>nb_shr hA (2 ^ v) i
  refine ⟨bits_u64 _ _ _,fun i hi=>?_⟩;obtain ⟨f1,f2,f3⟩:=low_facts v hv i hi;rw [nb_or hA (hS 0).1,(hS i).2,nb_and hw ho,nb_and hw ho,hob i hi];unfold setb
  cases hb:i.testBit v with
  | true =>
   rw [if_pos rfl]
   have:nb ones (i+2 ^ v)=false:=by
    by_cases h64:i+2 ^ v<64
    ·rw [hob _ h64,f1,hb];rfl
    ·exact nb_high ho (by omega)
   rw [this];simp
  | false =>
   simp only [Bool.false_eq_true,if_false,if_true,Bool.and_false,Bool.false_or]
   by_cases h64:i+2 ^ v<64
   ·rw [hob _ h64,f1,hb];simp
   ·rw [nb_high hw (by omega)];simp
 | false =>
  simp only [Bool.false_eq_true,if_false]
  have hA:=bits_u64 BinOp.andNot w ones;refine ⟨bits_u64 _ _ _,fun i hi=>?_⟩;obtain ⟨f1,f2,f3⟩:=low_facts v hv i hi;have hsub:=Nat.sub_le i (2 ^ v);rw [nb_or hA (wrap_u64 _),nb_shl hA,nb_andNot hw ho hi,hob i hi];unfold setb
  cases hb:i.testBit v with
  | true =>
   obtain ⟨g1,g2⟩:=f2 hb
   simp only [Bool.not_true,Bool.and_false,Bool.false_or,hi,decide_true,Bool.true_and,g1]
   rw [nb_andNot hw ho (by omega),hob _ (by omega),g2];simp
  | false =>
   rw [if_pos rfl]
   simp only [Bool.not_false,Bool.and_true,hi,decide_true,Bool.true_and]
   by_cases hle:2 ^ v<=i
   ·rw [nb_andNot hw ho (by omega),hob _ (by omega),f3 hle hb];simp
   ·simp [hle]
theorem cof_low {t:TV} (ht:t.Ok) {v:Nat} (hv:v<6) (hvn:v<t.n) (b:Bool) {ones:Int} (ho:U64 ones) (hob:∀ i,i<64->nb ones i=i.testBit v):cofT t v b=⟨t.n,t.ws.map (cofW v b ones)⟩:=by
 have hok:(⟨t.n,t.ws.map (cofW v b ones)⟩ : TV).Ok:=by
  refine ⟨ht.n16,by simp [ht.len],fun x hx=>?_,fun h6 x hx i hi=>?_⟩
  ·obtain ⟨w,hw,rfl⟩:=List.mem_map.1 hx
   exact (cofW_bit hv b (ht.u w hw) ho hob).1
  ·obtain ⟨w,hw,rfl⟩:=List.mem_map.1 hx
   have hc:=cofW_bit hv b (ht.u w hw) ho hob
   by_cases h64:i<64
   ·rw [hc.2 i h64]
    have h6':t.n<6:=h6;have hi':2 ^ t.n<=i:=hi;refine ht.low h6' w hw _ ?_
    by_cases hlt:setb i v b<2 ^ t.n
    ·exfalso
     have:setb (setb i v b) v (i.testBit v)=i:=by
      apply Nat.eq_of_testBit_eq
      intro u
      rw [setb_bit,setb_bit]
      by_cases hu:u=v
      ·subst hu;simp
      ·simp [hu]
     have h2:=setb_lt (i.testBit v) hlt hvn
     rw [this] at h2;omega
    ·omega
   ·exact nb_high hc.1 (by omega)
 refine (mkT_eq hok fun x hx=>?_).symm;have hd:=div64_lt (n:=t.n) hx;obtain ⟨w1,w2,w3⟩:=ht.word hd;unfold TV.bit
 have e:(t.ws.map (cofW v b ones)).getD (x/64) 0=cofW v b ones (t.ws.getD (x/64) 0):=by
  rw [List.getD_eq_getElem?_getD,List.getElem?_map,w3];rfl
 show nb ((t.ws.map (cofW v b ones)).getD (x/64) 0) (x % 64)=nb (t.ws.getD (setb x v b/64) 0) (setb x v b % 64)
 rw [e,(cofW_bit hv b w1 ho hob).2 _ (Nat.mod_lt _ (by omega)),(setb_low b hv).1,(setb_low b hv).2]
end Go.Proofs.YtpfafhmkbcahhaaGreat
namespace Go.Proofs.YtpfafhmkbcahhaaGreat
structure Plain (K:KV) (n m:Nat):Prop where
 ok:K.Ok
 uni:K.Uni
 vr:K.vars=n
 lv:∀ v,v<n->K.lev v=v
 pl:K.A.places=m
theorem plain_new {n m:Nat} (h1:1<=n) (hn:n<=64) (h2:2<=m) (hm:m<=1048576):Plain (KV.new n m) n m:=by
 refine ⟨KV.new_ok h1 hn h2 hm,(TInv.new n m).uni (KV.new_ok h1 hn h2 hm).wf,rfl,fun v hv=>by simp [KV.lev,KV.new,hv],rfl⟩
end Go.Proofs.YtpfafhmkbcahhaaGreat
