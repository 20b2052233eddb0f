import Derived.Test.YtpfafhmkbcahhaaGreatPS15
import Derived.Test.YtpfafhmkbcahhaaGreatPS8
import Derived.Test.YtpfafhmkbcahhaaGreatPS9
import Derived.Deep.RegionHeld
import Derived.Deep.QuietTactic
namespace Go.Proofs.YtpfafhmkbcahhaaGreat
open Go.RowKit Go.Maps Go.ChangeMaps Go.WideShapes
def KV.addT (K:KV) (l:Nat):KV:={ K with trail:=K.trail ++ [l] }
theorem KV.Ok.addT {K:KV} (h:K.Ok) {l:Nat} (hl:l + 2≤K.vars):(K.addT l).Ok:=by
  refine ⟨⟨h.wf.ok,h.wf.len,h.wf.ul,h.wf.tu,h.wf.ht,h.wf.hm,h.wf.eq,h.wf.pt,h.wf.cl,h.wf.vr,h.wf.vs⟩,h.pos,h.ord.same rfl rfl rfl rfl,fun x hx=>?_⟩
  rcases List.mem_append.1 hx with hx | hx
  · exact h.tl x hx
  · simp at hx; subst hx; exact hl
def KV.cutT (K:KV):KV:={ K with trail:=K.trail.dropLast }
theorem KV.Ok.cutT {K:KV} (h:K.Ok):K.cutT.Ok :=
  ⟨⟨h.wf.ok,h.wf.len,h.wf.ul,h.wf.tu,h.wf.ht,h.wf.hm,h.wf.eq,h.wf.pt,h.wf.cl,h.wf.vr,h.wf.vs⟩,h.pos,h.ord.same rfl rfl rfl rfl,fun x hx=>h.tl x (List.dropLast_subset _ hx)⟩
structure ExchK (b:Nat) (K:KV) (l:Int) (q:KPtr) (w:World) (e:Ending) (w':World):Prop where
  ex:∃ (code:Int) (K':KV) (T':List DM) (q':KPtr),e=.returned (.int .i64 code)∧KerIn w' b K' T' q'∧Upd (q.all b) w w'∧Sub (q.all b) w (q'.all b) ∧
    ((code=1∧(l < 0∨(K.vars:Int) - 2 < l)∧K'=K) ∨
     ∃ n:Nat,l=(n:Int)∧n + 2≤K.vars∧∃ (C:List CrV) (N:List (Nat × Nat)),CrAll K n (K.order.getD n 0) (K.order.getD (n + 1) 0) C∧FrN K (K.order.getD n 0) (C.flatMap CrV.qs) N ∧
      ((code=9∧K.A.places < K.A.used + N.length∧K'=K)∨(code=0∧K.A.used + N.length≤K.A.places∧∃ K1,Exch K n K1∧(C=[]→K1=K.swapK n)∧K'=K1.addT n)))
set_option maxRecDepth 100000 in
set_option maxHeartbeats 1600000 in
theorem exchange_spec (b:Nat) (l:Int) (K:KV) (T:List DM) (q:KPtr) (w:World) (h:KerIn w b K T q) (htr:K.trail.length≤1000000) :
    Calls Tryz.prog 49 #[.pointer (some ⟨b,0,none⟩),.int .i64 l] w fun e w'=>ExchK b K l q w e w':=by
  obtain ⟨ti,hi0,hz0,hz1',hz2⟩:=info_parts Tryz.infoIntE;have HI:=Lib.hid (And.intro hi0 (And.intro hz0 (And.intro hz1' hz2)));have hvs:=h.ok.wf.vs;have c4:w.cell? ⟨b,4,none⟩=some (.int .i64 K.vars):=cell_at h.mem.blk rfl;have HK:=Lib.hid h;clear h hi0 hz0 hz1' hz2
  by_cases h0:l < 0
  · have hd0:decide (l < 0)=true:=by simpa using h0
    go_enter Tryz.func49,Tryz.ntmps49
    go_wp2_with fail;go_ret;exact ⟨1,K,T,q,rfl,HK.out,Upd.refl _ _,Sub.refl _ _,.inl ⟨rfl,.inl h0,rfl⟩⟩
  · have hd0:decide (l < 0)=false:=by simpa using h0
    have hsub:IntKind.i64.wrap ((K.vars:Int) - 2)=(K.vars:Int) - 2:=IntWalk.i64_in _ (by omega)
    by_cases h1:(K.vars:Int) - 2 < l
    · have hd1:decide ((K.vars:Int) - 2 < l)=true:=by simpa using h1
      go_enter Tryz.func49,Tryz.ntmps49
      go_wp2_with fail;go_ret;exact ⟨1,K,T,q,rfl,HK.out,Upd.refl _ _,Sub.refl _ _,.inl ⟨rfl,.inr h1,rfl⟩⟩
    · have hd1:decide ((K.vars:Int) - 2 < l)=false:=by simpa using h1
      obtain ⟨n,rfl⟩ : ∃ n:Nat,l=(n:Int):=⟨l.toNat,by omega⟩;have HT:=Lib.hid (turn_spec b n K T q w HK.out (by omega))
      go_enter Tryz.func49,Tryz.ntmps49
      go_wp2_with fail;refine HT.out.mono ?_;rintro e w1 hE;obtain ⟨C,N,hC,hN,hcase⟩:=hE.ex;have HCN:=Lib.hid (And.intro hC hN);clear hE hC hN HT c4
      rcases hcase with ⟨rfl,hfull,hu⟩ | ⟨rfl,hroom,K1,T1,q1,hx,hnil,hk1,hu,hs⟩
      · have HE:Hid (ExchK b K n q w (.returned (.int .i64 9)) w1):=⟨9,K,T,q,rfl,HK.out.upd hu (by simp),hu.mono (by simp),Sub.refl _ _,.inr ⟨n,rfl,by omega,C,N,HCN.out.1,HCN.out.2,.inl ⟨rfl,hfull,rfl⟩⟩⟩
        clear hfull hu;go_wp2_with fail;go_ret;exact HE.out
      · have hm:=hk1.mem
        have hrow:=hm.ts;have htr1:K1.trail=K.trail:=hx.tr;rw [htr1] at hrow;obtain ⟨fa,fc,hfv,_⟩:=row_nil_len hrow
        have hb7:w1.cell? ⟨b,7,none⟩=some (.slice fa K.trail.length fc):=by rw [show Value.slice fa K.trail.length fc=q1.tv from hfv.symm]; exact cell_at hm.blk rfl
        rw [hfv] at hrow;have HROW:Hid (w1.ownsRow 0 3 1 (.slice fa K.trail.length fc) K.trail.length (flatN K.trail)):=hrow;have HFV:=Lib.hid hfv;have HM:=Lib.hid (And.intro hm (And.intro hu (And.intro hs (And.intro hx (And.intro hnil (And.intro hk1.ti hk1.ok))))));have hbl:=heap_lt hm.blk
        have HC2:Hid (∀ u,u∈[Value.int .i64 n]→u.oneCell'=true):=by intro u hu; simp at hu; subst hu; rfl
        clear hm hu hs hx hnil hk1 hrow hfv
        go_wp2_with (at_builtin; go_must (refine wpList_append_lies _ rfl (.tmp 29) (.tmp 31) 22 rfl 0 3 ti _ 1 8 Tryz.underlying22 HI.out.1 HI.out.2.1 HI.out.2.2.1 HI.out.2.2.2 (by rfl) (by decide) _ K.trail.length (flatN K.trail) rfl (HROW.out.alloc _) ⟨w1.heap.size,0,none⟩ 1 1 [.int .i64 n] rfl rfl ?c1 HC2.out (by omega) (by unfold maxLen; omega) (by omega) (by omega) _ rfl ?_))
        case c1=>exact World.news_of_block (heap_alloc_new w1 (.cells #[.int .i64 n] 3 (0,0)))
        intro g5 cap w5 hown hgr hat hlt5
        have hat':(Value.slice fa K.trail.length fc).ownBlock=some g5∨g5=w1.heap.size + 1:=hat
        have hbk5:w5.heap[b]?=w1.heap[b]?:=by
          have hne:some b≠(Value.slice fa K.trail.length fc).ownBlock:=by
            intro e
            have e1:=HM.out.1.ob;have e2:=HM.out.1.ox b (by rw [HFV.out]; exact e.symm);omega
          rw [hgr.block b (by rw [World.size_alloc]; omega) hne,Below.heap_alloc _ _ _ hbl]
        rw [HM.out.1.blk] at hbk5;have fz:w5.frozen? ⟨b,7,none⟩=false:=frozen_at 7 hbk5;have c57:w5.cell? ⟨b,7,none⟩=some q1.tv:=cell_at hbk5 rfl
        have HE:Hid (∃ q',KerMem (w5.setCell ⟨b,7,none⟩ (.slice (some ⟨g5,0,none⟩) (K.trail.length + 1) cap)) b (K1.addT n) T1 q'∧Upd (q.all b) w (w5.setCell ⟨b,7,none⟩ (.slice (some ⟨g5,0,none⟩) (K.trail.length + 1) cap))∧Sub (q.all b) w (q'.all b)):=by
          have m:=HM.out.1.growTrail (g5:=g5) (cap:=cap) (l:=n) (by rw [HFV.out]; exact hgr) (by rw [HFV.out]; exact hat') (by rw [htr1]; exact hown);rw [htr1] at m;refine ⟨_,by unfold KV.addT; rw [htr1]; exact m,?_,fun k hk=>?_⟩
          · have hbm:b∈q.all b:=KPtr.mem.2 (.inl rfl)
            have u5:Upd (q.all b) w w5:=(HM.out.2.1.alloc (.cells #[.int .i64 n] 3 (0,0))).grown hgr fun k hk=>HM.out.2.2.1 k (KPtr.mem.2 (.inr (.inr (.inr (.inr (.inr (.inr (.inr (by rw [HFV.out]; exact hk)))))))))
            exact u5.setCell (p:=⟨b,7,none⟩) (.inl hbm) _
          · have old:∀ k,k∈q1.all b→k∈q.all b∨w.heap.size≤k:=HM.out.2.2.1
            simp only [KPtr.mem] at hk
            rcases hk with hk | hk | hk | hk | hk | hk | hk | hk
            · exact old k (KPtr.mem.2 (.inl hk))
            · exact old k (KPtr.mem.2 (.inr (.inl hk)))
            · exact old k (KPtr.mem.2 (.inr (.inr (.inl hk))))
            · exact old k (KPtr.mem.2 (.inr (.inr (.inr (.inl hk)))))
            · exact old k (KPtr.mem.2 (.inr (.inr (.inr (.inr (.inl hk))))))
            · exact old k (KPtr.mem.2 (.inr (.inr (.inr (.inr (.inr (.inl hk)))))))
            · exact old k (KPtr.mem.2 (.inr (.inr (.inr (.inr (.inr (.inr (.inl hk))))))))
            · simp [Value.ownBlock] at hk; subst hk
              rcases hat' with e | e
              · exact old _ (KPtr.mem.2 (.inr (.inr (.inr (.inr (.inr (.inr (.inr (by rw [HFV.out]; exact e)))))))))
              · have:=HM.out.2.1.size; right; omega
        clear hown hgr hat hat' hlt5 hbk5 hb7;go_wp2_with fail;go_ret;obtain ⟨q',m,u,s⟩:=HE.out;exact ⟨0,K1.addT n,T1,q',rfl,⟨m,HM.out.2.2.2.2.2.1.same rfl rfl,HM.out.2.2.2.2.2.2.addT (by rw [HM.out.2.2.2.1.vr]; omega)⟩,u,s,.inr ⟨n,rfl,by omega,C,N,HCN.out.1,HCN.out.2,.inr ⟨rfl,hroom,K1,HM.out.2.2.2.1,HM.out.2.2.2.2.1,rfl⟩⟩⟩
theorem KerMem.cutTrail {w:World} {b g n c:Nat} {K:KV} {T:List DM} {q:KPtr} (h:KerMem w b K T q) (hq:q.tv=.slice (some ⟨g,0,none⟩) n c) :
    KerMem (w.setCell ⟨b,7,none⟩ (.slice (some ⟨g,0,none⟩) (K.trail.length - 1) c)) b K.cutT T { q with tv:=.slice (some ⟨g,0,none⟩) (K.trail.length - 1) c }:=by
  have hne:∀ {k c},q.o k=c→c≠0→k≠b:=fun {k c} hk hc hm=>hc (by rw [← hk,hm,h.ob])
  have hk:∀ {k c:Nat} {v:Value},q.o k=c→c≠0→(w.setCell ⟨b,7,none⟩ v).heap[k]?=w.heap[k]?:=fun hk hc=>heap_set_ne (hne hk hc)
  have hts:=h.ts;rw [hq] at hts;have hg:q.o g=7:=h.ox g (by rw [hq]; rfl)
  refine ⟨by rw [heap_set_eq h.blk]; rfl,h.ar.keep fun k hm=>hk (h.oa k hm) (by omega),h.tab.keep fun k hm=>hk (h.ot k hm) (by omega),row_keep h.us fun k hm=>hk (h.ou k hm) (by omega),
    row_keep h.hs fun k hm=>hk (h.oh k hm) (by omega),row_keep h.os fun k hm=>hk (h.oo k hm) (by omega),row_keep h.ls fun k hm=>hk (h.ol k hm) (by omega),?_,
    h.ob,h.oa,h.ot,h.ou,h.oh,h.oo,h.ol,fun k hk=>by simp [Value.ownBlock] at hk; subst hk; exact hg⟩
  have e:K.cutT.trail.length=K.trail.length - 1:=by show K.trail.dropLast.length=_; rw [List.length_dropLast]
  rw [e];have ht:=row_take hts (m:=K.trail.length - 1) (by omega)
  have e2:flatN K.cutT.trail=(flatN K.trail).take ((K.trail.length - 1) * 1):=by
    show flatN K.trail.dropLast=_
    rw [List.dropLast_eq_take,Nat.mul_one]; simp [flatN,List.map_take]
  rw [e2];exact row_ne ht (a:=⟨b,7,none⟩) (by simp [Value.ownBlock]; exact fun e=>(hne hg (by omega)) e.symm) _
structure UndoK (b:Nat) (K:KV) (q:KPtr) (w:World) (e:Ending) (w':World):Prop where
  ex:∃ (K':KV) (T':List DM) (q':KPtr),KerIn w' b K' T' q'∧Upd (q.all b) w w'∧Sub (q.all b) w (q'.all b) ∧
    ((K.trail=[]∧e=.returned (.tuple #[.int .i64 0,.int .i64 10])∧K'=K) ∨
     (K.trail≠[]∧e=.returned (.tuple #[.int .i64 (K.trail.getLastD 0:Nat),.int .i64 0])∧∃ K1,Exch K (K.trail.getLastD 0) K1∧K'=K1.cutT))
theorem last_at {t:List Nat} (h:t≠[]):t[t.length - 1]?=some (t.getLastD 0):=by
  rw [← List.getLast?_eq_getElem?,List.getLastD_eq_getLast?,List.getLast?_eq_some_getLast h]; rfl
set_option maxRecDepth 100000 in
set_option maxHeartbeats 1600000 in
theorem undo_spec (b:Nat) (K:KV) (T:List DM) (q:KPtr) (w:World) (h:KerIn w b K T q) (htr:K.trail.length≤1000000)
    (hroom:K.trail≠[]→∀ (C:List CrV) (N:List (Nat × Nat)),CrAll K (K.trail.getLastD 0) (K.order.getD (K.trail.getLastD 0) 0) (K.order.getD (K.trail.getLastD 0 + 1) 0) C→FrN K (K.order.getD (K.trail.getLastD 0) 0) (C.flatMap CrV.qs) N→K.A.used + N.length≤K.A.places) :
    Calls Tryz.prog 41 #[.pointer (some ⟨b,0,none⟩)] w fun e w'=>UndoK b K q w e w':=by
  have hrow:=h.mem.ts;have HK:=Lib.hid h;obtain ⟨fa,fc,hfv,hform⟩:=row_nil_len hrow
  have c7:w.cell? ⟨b,7,none⟩=some (.slice fa K.trail.length fc):=by rw [← hfv]; exact cell_at h.mem.blk rfl
  have HFV:=Lib.hid hfv;rw [hfv] at hrow;have HRM:=Lib.hid hroom;clear h hfv hroom
  by_cases hn:K.trail=[]
  · have hl0:K.trail.length=0:=by rw [hn]; rfl
    have HE:Hid (UndoK b K q w (.returned (.tuple #[.int .i64 0,.int .i64 10])) w):=⟨K,T,q,HK.out,Upd.refl _ _,Sub.refl _ _,.inl ⟨hn,rfl,rfl⟩⟩;rw [hl0] at c7;clear hrow hform hn
    go_enter Tryz.func41,Tryz.ntmps41
    go_wp2_with fail;go_ret2;exact HE.out
  · obtain ⟨k,hk⟩ : ∃ k,K.trail.length=k + 1:=⟨K.trail.length - 1,by have:=List.length_pos_iff.2 hn; omega⟩
    obtain ⟨g,rfl⟩ : ∃ g,fa=some ⟨g,0,none⟩:=by
      rcases hform with ⟨_,h0,_⟩ | h
      · omega
      · exact h
    obtain ⟨l,hl⟩ : ∃ l,K.trail.getLastD 0=l:=⟨_,rfl⟩;have hat:=last_at hn;rw [hl,hk] at hat;have cl:w.cell? ⟨g,k,none⟩=some (.int .i64 l):=row_cell hrow (by simp [flatN]; exact ⟨l,hat,rfl⟩);have hl2:l + 2≤K.vars:=HK.out.ok.tl l (List.mem_of_getElem? hat);have HT:=Lib.hid (turn_spec b l K T q w HK.out hl2);have HL:=Lib.hid hl;have HN:=Lib.hid hn;have HKL:=Lib.hid hk;rw [hk] at c7 htr;clear hrow hform hat hl hn hk
    go_enter Tryz.func41,Tryz.ntmps41
    go_wp2_with fail;refine HT.out.mono ?_;rintro e w1 hE;obtain ⟨C,N,hC,hN,hcase⟩:=hE.ex;have hrm:=HRM.out HN.out;rw [HL.out] at hrm;have hrm2:=hrm C N hC hN
    rcases hcase with ⟨_,hfull,_⟩ | ⟨rfl,hroom,K1,T1,q1,hx,_,hk1,hu,hs⟩
    · omega
    · have htr1:K1.trail=K.trail:=hx.tr
      have hrow:=hk1.mem.ts;obtain ⟨fa,fc2,hfv,hform⟩:=row_nil_len hrow
      obtain ⟨g2,rfl⟩ : ∃ g,fa=some ⟨g,0,none⟩:=by
        rcases hform with ⟨_,h0,_⟩ | h
        · rw [htr1,HKL.out] at h0; omega
        · exact h
      have hc2:k + 1≤fc2:=by have:=(row_block (hfv ▸ hrow)).2.1; rw [htr1,HKL.out] at this; exact this
      have b7:w1.cell? ⟨b,7,none⟩=some (.slice (some ⟨g2,0,none⟩) (k + 1) fc2):=by
        have:=cell_at (j:=7) hk1.mem.blk (v:=q1.tv) rfl;rw [this,hfv,htr1,HKL.out]
      have fz:w1.frozen? ⟨b,7,none⟩=false:=frozen_at 7 hk1.mem.blk;have m:=hk1.mem.cutTrail hfv;rw [htr1,HKL.out,Nat.add_sub_cancel] at m
      have HE:Hid (UndoK b K q w (.returned (.tuple #[.int .i64 l,.int .i64 0])) (w1.setCell ⟨b,7,none⟩ (.slice (some ⟨g2,0,none⟩) k fc2))):=by
        refine ⟨K1.cutT,T1,_,⟨m,hk1.ti.same rfl rfl,hk1.ok.cutT⟩,hu.setCell (p:=⟨b,7,none⟩) (.inl (KPtr.mem.2 (.inl rfl))) _,fun j hj=>hs j ?_,.inr ⟨HN.out,by rw [HL.out],K1,by rw [HL.out]; exact hx,rfl⟩⟩
        simp only [KPtr.mem] at hj ⊢
        rcases hj with hj | hj | hj | hj | hj | hj | hj | hj
        · exact .inl hj
        · exact .inr (.inl hj)
        · exact .inr (.inr (.inl hj))
        · exact .inr (.inr (.inr (.inl hj)))
        · exact .inr (.inr (.inr (.inr (.inl hj))))
        · exact .inr (.inr (.inr (.inr (.inr (.inl hj)))))
        · exact .inr (.inr (.inr (.inr (.inr (.inr (.inl hj))))))
        · exact .inr (.inr (.inr (.inr (.inr (.inr (.inr (by rw [hfv]; exact hj)))))))
      clear hE hC hN hrm hrm2 hroom hx hk1 hu hs htr1 hrow hfv hform m HT HRM;go_wp2_with fail;go_ret2;exact HE.out
end Go.Proofs.YtpfafhmkbcahhaaGreat
namespace Go.Proofs.YtpfafhmkbcahhaaGreat
section
variable {P:Program} {ops:Array Oper} {Q:Exit→Act→World→Prop} {md:Region.Mode} {S E:World→Prop} {Ks:List Nat}
def noneB (L:Array Bool) (Ks:List Nat):Bool:=Ks.all fun k=>!L.getD k false
theorem noneB_set {L:Array Bool} {i:Nat} (h:i∉Ks):noneB (L.setIfInBounds i true) Ks=noneB L Ks:=by
  unfold noneB
  induction Ks with
  | nil=>rfl
  | cons k t ih =>
    simp only [List.mem_cons,not_or] at h
    simp only [List.all_cons]
    rw [ih h.2,getD_set_ne false h.1]
def wpAnyU (P:Program) (md:Region.Mode) (ops:Array Oper) (Q:Exit→Act→World→Prop) (S E:World→Prop) (Ks:List Nat):Nat→Array Bool→Act→World→Prop
  | 0,L,a,w=>Region.ready md ops L=[]∧Q .normal a w
  | fuel + 1,L,a,w =>
    (Region.ready md ops L=[]→Q .normal a w) ∧
    ∀ i,i∈Region.ready md ops L→wpOp P ops Q i (fun a' w'=>(S w'∧(noneB (L.setIfInBounds i true) Ks=true→E w'))∧wpAnyU P md ops Q S E Ks fuel (L.setIfInBounds i true) a' w') a w
theorem wpAny_of_until:∀ (fuel:Nat) (L:Array Bool) (a:Act) (w:World),wpAnyU P md ops Q S E Ks fuel L a w→wpAny P md ops Q fuel L a w
  | 0,_,_,_,h=>h
  | fuel + 1,_,_,_,h=>⟨h.1,fun i hi=>wpOp_mono (fun a' w' h'=>wpAny_of_until fuel _ a' w' h'.2) (h.2 i hi)⟩
theorem wpAnyU_first {C:World→Prop} {G:Array Bool→Prop} {i:Nat} {oi:Oper} {v:Value} (hi:ops[i]?=some oi) (hsel:∀ (j:Nat) (o:Oper) cs b,ops[j]?=some o→o.op≠.select cs b)
    (hQ:∀ c a w,Q (.panic c) (a.put oi.dst v) w→Q (.panic c) a w) (hik:i∉Ks)
    (hGs:∀ L,i∈Region.ready md ops L→G L→∀ j,j∈Region.ready md ops L→j≠i→G (L.setIfInBounds j true))
    (hCG:∀ L w,G L→S w→(noneB L Ks=true→E w)→C w) :
    ∀ (fuel:Nat) (L:Array Bool) (a:Act) (w:World),
      (∀ j oj,ops[j]?=some oj→j≠i→L.getD j true=false→(∀ e,e∈oj.after→Region.binds md e=true→e.on≠i)→oi.apart ops oj=true) →
      i∈Region.ready md ops L→YieldsIf P ops C oi v a→S w→(noneB L Ks=true→E w)→G L →
      wpAnyU P md ops Q S E Ks fuel (L.setIfInBounds i true) (a.put oi.dst v) w→wpAnyU P md ops Q S E Ks (fuel + 1) L a w:=by
  intro fuel
  induction fuel with
  | zero =>
    intro L a w _ hr hy hS hE hg H
    refine ⟨fun h=>(by rw [h] at hr; cases hr),fun j hj=>?_⟩
    by_cases hji:j=i
    · subst hji; exact hy.wpOp hi (hCG L w hg hS hE) ⟨⟨hS,fun hn=>hE (by rw [← noneB_set hik]; exact hn)⟩,H⟩
    · have:=ready_mono hj hji
      rw [H.1] at this;cases this
  | succ fuel ih =>
    intro L a w hfree hr hy hS hE hg H
    refine ⟨fun h=>(by rw [h] at hr; cases hr),fun j hj=>?_⟩
    by_cases hji:j=i
    · subst hji; exact hy.wpOp hi (hCG L w hg hS hE) ⟨⟨hS,fun hn=>hE (by rw [← noneB_set hik]; exact hn)⟩,H⟩
    · have h1:=H.2 j (ready_mono hj hji)
      obtain ⟨hjun,oj,hoj,hall⟩:=mem_ready.1 hj
      have hnot:∀ e,e∈oj.after→Region.binds md e=true→e.on≠i:=fun e he hb heq=>by
        have h1:=hall e he hb;have h0:=(mem_ready.1 hr).1;rw [heq] at h1
        rcases Nat.lt_or_ge i L.size with h' | h'
        · simp [h'] at h0 h1; rw [h0] at h1; cases h1
        · simp [Array.getElem?_eq_none h'] at h1
      have h2:=wpOp_putIf hoj (hfree j oj hoj hji hjun hnot) (fun cs b=>hsel i oi cs b hi) (fun cs b=>hsel j oj cs b hoj) hQ hy h1
      have hfree':∀ k ok,ops[k]?=some ok→k≠i→(L.setIfInBounds j true).getD k true=false →
          (∀ e,e∈ok.after→Region.binds md e=true→e.on≠i)→oi.apart ops ok=true:=fun k ok hk hki hun hno=>by
        refine hfree k ok hk hki ?_ hno
        by_cases hjk:j=k
        · subst hjk; exact hjun
        · rw [getD_set_ne true hjk] at hun; exact hun
      refine wpOp_mono (fun a' w' h3=>?_) h2;obtain ⟨hy',⟨hS',hE'⟩,hW⟩:=h3
      have hE2:noneB (L.setIfInBounds j true) Ks=true→E w':=fun hn=>hE' (by rw [Array.setIfInBounds_comm _ _ (Ne.symm hji),noneB_set hik]; exact hn)
      refine ⟨⟨hS',hE2⟩,ih (L.setIfInBounds j true) a' w' hfree' (ready_mono hr (Ne.symm hji)) hy' hS' hE2 (hGs L hr hg j hj hji) ?_⟩;rw [Array.setIfInBounds_comm _ _ hji];exact hW
def waitsB (md:Region.Mode) (ops:Array Oper) (Ks:List Nat) (i:Nat):Bool :=
  Ks.all fun k=>(k != i) && (match ops[k]? with | some o=>o.after.any (fun e=>Region.binds md e && (e.on == i)) | none=>false)
theorem waitsB_mem {i k:Nat} (h:waitsB md ops Ks i=true) (hk:k∈Ks):k≠i∧∃ o,ops[k]?=some o∧∃ e,e∈o.after∧Region.binds md e=true∧e.on=i:=by
  have h1:=List.all_eq_true.1 h k hk
  simp only [Bool.and_eq_true,bne_iff_ne,ne_eq] at h1
  refine ⟨h1.1,?_⟩;have h2:=h1.2
  cases ho:ops[k]? with
  | none=>rw [ho] at h2; cases h2
  | some o =>
    rw [ho] at h2;obtain ⟨e,he,hb⟩:=Array.any_eq_true'.1 h2
    simp only [Bool.and_eq_true,beq_iff_eq] at hb
    exact ⟨o,rfl,e,he,hb.1,hb.2⟩
theorem wpAnyU_takeS {i:Nat} {oi:Oper} {v:Value} {fuel:Nat} {L:Array Bool} {a:Act} {w:World} (hi:ops[i]?=some oi)
    (hs:Region.noSelect ops=true) (hf:Region.free md ops L i=true) (hr:(Region.ready md ops L).contains i=true) (hik:Ks.contains i=false)
    (hQ:∀ c a w,Q (.panic c) (a.put oi.dst v) w→Q (.panic c) a w) (hy:YieldsIf P ops S oi v a) (hS:S w) (hE:noneB L Ks=true→E w)
    (h:wpAnyU P md ops Q S E Ks fuel (L.setIfInBounds i true) (a.put oi.dst v) w):wpAnyU P md ops Q S E Ks (fuel + 1) L a w :=
  wpAnyU_first (C:=S) (G:=fun _=>True) hi (Region.noSelect_spec hs) hQ (fun hm=>by simp [hm] at hik) (fun _ _ _ _ _ _=>trivial) (fun _ _ _ hS _=>hS) fuel L a w (Region.free_spec hi hf) (by simpa using hr) hy hS hE trivial h
theorem wpAnyU_takeE {i:Nat} {oi:Oper} {v:Value} {fuel:Nat} {L:Array Bool} {a:Act} {w:World} (hi:ops[i]?=some oi)
    (hs:Region.noSelect ops=true) (hf:Region.free md ops L i=true) (hr:(Region.ready md ops L).contains i=true) (hik:Ks.contains i=false) (hwt:waitsB md ops Ks i=true) (hn:noneB L Ks=true)
    (hQ:∀ c a w,Q (.panic c) (a.put oi.dst v) w→Q (.panic c) a w) (hy:YieldsIf P ops E oi v a) (hS:S w) (hE:noneB L Ks=true→E w)
    (h:wpAnyU P md ops Q S E Ks fuel (L.setIfInBounds i true) (a.put oi.dst v) w):wpAnyU P md ops Q S E Ks (fuel + 1) L a w :=
  wpAnyU_first (C:=E) (G:=fun L=>noneB L Ks=true) hi (Region.noSelect_spec hs) hQ (fun hm=>by simp [hm] at hik) (fun L hri hg j hj hji=>by
    refine (noneB_set fun hjK=>?_).trans hg;obtain ⟨_,o,ho,e,he,hb,heq⟩:=waitsB_mem hwt hjK;obtain ⟨_,o',ho',hall⟩:=mem_ready.1 hj
    rw [ho] at ho'; cases ho'
    have h1:=hall e he hb;have h0:=(mem_ready.1 hri).1;rw [heq] at h1
    rcases Nat.lt_or_ge i L.size with h' | h'
    · simp [h'] at h0 h1; rw [h0] at h1; cases h1
    · simp [Array.getElem?_eq_none h'] at h1) (fun _ _ hg _ hE=>hE hg) fuel L a w (Region.free_spec hi hf) (by simpa using hr) hy hS hE hn h
def AllReadyU (P:Program) (md:Region.Mode) (ops:Array Oper) (Q:Exit→Act→World→Prop) (S E:World→Prop) (Ks:List Nat) (fuel:Nat) (L:Array Bool) (a:Act) (w:World) (rs:List Nat):Prop :=
  ∀ i,i∈rs→wpOp P ops Q i (fun a' w'=>(S w'∧(noneB (L.setIfInBounds i true) Ks=true→E w'))∧wpAnyU P md ops Q S E Ks fuel (L.setIfInBounds i true) a' w') a w
theorem AllReadyU.nil {fuel:Nat} {L:Array Bool} {a:Act} {w:World}:AllReadyU P md ops Q S E Ks fuel L a w []:=fun _ h=>by cases h
theorem AllReadyU.cons {fuel:Nat} {L:Array Bool} {a:Act} {w:World} {i:Nat} {o:Oper} {rs:List Nat} (ho:ops[i]?=some o)
    (h:∀ K':Act→World→Prop,Shut (∀ a w,(S w∧(noneB (L.setIfInBounds i true) Ks=true→E w))→((S w∧(noneB (L.setIfInBounds i true) Ks=true→E w))→wpAnyU P md ops Q S E Ks fuel (L.setIfInBounds i true) a w)→K' a w)→if Region.wanted o (yielded ops a.tmps)=true then Oper.wp P o a w K' Q else K' (a.put o.dst undef) w)
    (hs:AllReadyU P md ops Q S E Ks fuel L a w rs):AllReadyU P md ops Q S E Ks fuel L a w (i :: rs):=fun j hj=>by
  rcases List.mem_cons.1 hj with rfl | hj
  · exact wpOp_step ho (fun K' hK=>h K' (fun a w hS hW=>hK a w ⟨hS,hW hS⟩))
  · exact hs j hj
theorem wpAnyU_ready {rs:List Nat} {fuel:Nat} {L:Array Bool} {a:Act} {w:World} (hr:Region.ready md ops L=rs) (hne:rs≠[])
    (h:AllReadyU P md ops Q S E Ks fuel L a w rs):wpAnyU P md ops Q S E Ks (fuel + 1) L a w:=⟨fun h0=>absurd (hr ▸ h0) hne,hr ▸ h⟩
theorem wpAnyU_done {L:Array Bool} {a:Act} {w:World} (hr:Region.ready md ops L=[]) (h:Q .normal a w) :
    ∀ fuel,wpAnyU P md ops Q S E Ks fuel L a w
  | 0=>⟨hr,h⟩
  | _ + 1=>⟨fun _=>h,by rw [hr]; simp⟩
theorem wp_region_until {id:Nat} {a:Act} {w:World} (S E:World→Prop) (Ks:List Nat) (hm:P.follows .mixedOrders=true)
    (h:wpAnyU P .any ops Q S E Ks ops.size (Array.replicate ops.size false) a w.drew):(Code.region id ops true).wp P Q a w :=
  wp_region_any hm (wpAny_of_until _ _ _ _ h)
end
theorem noE {b:Bool} {p:Prop} (hb:b=false) (h:b=true):p:=by rw [hb] at h; cases h
end Go.Proofs.YtpfafhmkbcahhaaGreat
namespace Go.Proofs.YtpfafhmkbcahhaaGreat
open Go.RowKit Go.Maps Go.ChangeMaps Go.WideShapes
def KV.rootsI (K:KV) (i:Nat):List Nat:=(List.range i).filter fun r=>decide (0 < K.hold r)
def KV.roots (K:KV):List Nat:=K.rootsI K.holds.length
theorem KV.rootsI_succ (K:KV) (i:Nat):K.rootsI (i + 1)=if 0 < K.hold i then K.rootsI i ++ [i] else K.rootsI i:=by
  unfold KV.rootsI;rw [List.range_succ,List.filter_append]
  by_cases h:0 < K.hold i
  · simp [h]
  · simp [h]
theorem KV.rootsI_len (K:KV) (i:Nat):(K.rootsI i).length≤i:=by
  have:=List.length_filter_le (fun r=>decide (0 < K.hold r)) (List.range i)
  simpa [KV.rootsI] using this
theorem KV.mem_roots {K:KV} {r:Nat}:r∈K.roots↔0 < K.hold r:=by
  simp only [KV.roots,KV.rootsI,List.mem_filter,List.mem_range,decide_eq_true_eq]
  refine ⟨fun h=>h.2,fun h=>⟨?_,h⟩⟩
  by_cases hl:r < K.holds.length
  · exact hl
  · have:K.hold r=0:=by
      unfold KV.hold
      rw [List.getD_eq_getElem?_getD,List.getElem?_eq_none (by omega)]; rfl
    omega
theorem KV.roots_nodup (K:KV):K.roots.Nodup:=List.Pairwise.filter _ List.nodup_range
set_option maxRecDepth 100000 in
set_option maxHeartbeats 1600000 in
theorem roots_spec (b:Nat) (K:KV) (T:List DM) (q:KPtr) (w:World) (h:KerIn w b K T q) :
    Calls Tryz.prog 51 #[.pointer (some ⟨b,0,none⟩)] w fun e w'=>∃ v:Value,e=.returned v∧w'.ownsRow w.heap.size 54 1 v K.roots.length (flatRefs K.roots)∧Upd [] w w':=by
  have hsz:K.holds.length≤1048576:=by
    have h1:=h.ok.wf.len;have h2:=h.ok.wf.ul;have h3:=h.ok.wf.ok.lp;have h4:=h.ok.wf.ok.pm;omega
  obtain ⟨fa,fc,hhv,_⟩:=row_nil_len h.mem.hs
  have c3:w.cell? ⟨b,3,none⟩=some (.slice fa K.holds.length fc):=by rw [← hhv]; exact cell_at h.mem.blk rfl
  have hrow:=h.mem.hs;rw [hhv] at hrow;have HROW:=Lib.hid hrow;obtain ⟨ti,hi0,hz0,hz1',hz2⟩:=info_parts Tryz.infoRefA;have HI:=Lib.hid hi0;have HZ:=Lib.hid hz0;have HZ1:=Lib.hid hz1';have HZ2:=Lib.hid hz2;have HHM:=Lib.hid h.ok.wf.hm;clear h hhv hrow hi0 hz0 hz1' hz2
  go_enter Tryz.func51,Tryz.ntmps51
  go_wp2_with fail
  go_loopg [3,14] K.holds.length (fun g s3 s14 wr=>∃ i:Nat,K.holds.length - i=g∧i≤K.holds.length∧s14=.int .i64 i∧wr.ownsRow w.heap.size 54 1 s3 (K.rootsI i).length (flatRefs (K.rootsI i))∧Upd [] w wr)
  case atStart=>exact ⟨0,by omega,by omega,rfl,World.ownsRow_nil _ _ _ _,Upd.refl _ _⟩
  case round =>
    obtain ⟨i,rfl,hi,rfl,ho,hU⟩:=hrel
    by_cases hlt:i < K.holds.length
    · obtain ⟨g,rfl⟩:=row_some HROW.out (by omega)
      have hr:=row_keep HROW.out fun k hk=>hU.block k (HROW.out.lt k hk).2 (by simp)
      have ch:wr.cell? ⟨g,i,none⟩=some (.int .i32 (K.hold i)):=row_cell hr (by simp [flat32,KV.hold,hlt])
      have hil:(i:Int) < (K.holds.length:Int):=by omega
      have HU:=Lib.hid hU
      have hw32:i≤4294967295:=by omega
      by_cases h0:0 < K.hold i
      · have HS:Hid (K.rootsI (i + 1)=K.rootsI i ++ [i]):=by
          show K.rootsI (i + 1)=_
          rw [K.rootsI_succ,if_pos h0]
        have hln:=K.rootsI_len i;obtain ⟨va,vc,hv,_⟩:=row_nil_len ho;subst hv;have HO:=Lib.hid ho
        have hd:(0:Int) < (K.hold i:Int):=by omega
        have HC2:Hid (∀ u,u∈[Value.int .u32 i]→u.oneCell'=true):=by intro u hu; simp at hu; subst hu; rfl
        have hsz2:=hU.size
        have hmod:(i:Int) % 4294967296=i:=by omega
        have hbs:w.heap.size≤(wr.alloc (.cells #[.int .u32 i] 54 (0,0))).heap.size:=by rw [World.size_alloc]; omega
        clear ho hU hr
        go_wp2_with (at_builtin; go_must (refine wpList_append_lies _ rfl (.tmp 21) (.tmp 24) 28 rfl w.heap.size 54 ti _ 1 4 Tryz.underlying28 HI.out HZ.out HZ1.out HZ2.out (by rfl) (by decide) _ (K.rootsI i).length (flatRefs (K.rootsI i)) rfl (HO.out.alloc _) ⟨wr.heap.size,0,none⟩ 1 1 [.int .u32 i] rfl rfl ?c1 HC2.out (by omega) (by unfold maxLen; omega) (by omega) hbs _ rfl ?_))
        case c1=>exact World.news_of_block (heap_alloc_new wr (.cells #[.int .u32 i] 54 (0,0)))
        intro g5 cap w5 hown hgr hat hlt5
        have HE:Hid (w5.ownsRow w.heap.size 54 1 (.slice (some ⟨g5,0,none⟩) ((K.rootsI i).length + 1) cap) (K.rootsI (i + 1)).length (flatRefs (K.rootsI (i + 1)))∧Upd [] w w5):=by
          rw [HS.out];refine ⟨by simpa [flatRefs] using hown,(HU.out.alloc _).grown hgr fun k hk=>.inr ?_⟩;exact (HO.out.lt k hk).1
        clear hown hgr hat hlt5;go_wp2_with fail
        go_roundg (K.holds.length - (i + 1))
        case measure=>omega
        case rel=>exact ⟨i + 1,rfl,by omega,by simp,HE.out.1,HE.out.2⟩
      · have HS:Hid (K.rootsI (i + 1)=K.rootsI i):=by
          show K.rootsI (i + 1)=_
          rw [K.rootsI_succ,if_neg h0]
        have hd:¬ ((0:Int) < (K.hold i:Int)):=by omega
        have hd2:decide ((0:Int) < (K.hold i:Int))=false:=by simp; omega
        have HO:=Lib.hid ho;clear ho hU hr;go_wp2_with fail
        go_roundg (K.holds.length - (i + 1))
        case measure=>omega
        case rel=>exact ⟨i + 1,rfl,by omega,by simp,by rw [HS.out]; exact HO.out,HU.out⟩
    · obtain rfl:i=K.holds.length:=by omega
      have hil:¬ ((K.holds.length:Int) < (K.holds.length:Int)):=by omega
      have HE:=Lib.hid (And.intro ho hU);clear ho hU;go_wp2_with fail;go_ret;exact ⟨_,rfl,HE.out⟩
end Go.Proofs.YtpfafhmkbcahhaaGreat
namespace Go.Proofs.YtpfafhmkbcahhaaGreat
open Go.RowKit Go.Maps Go.ChangeMaps Go.WideShapes
def supStep (s:Int) (n:Nat):Int:=bits BinOp.or IntKind.u64 s (IntKind.u64.wrap (2 ^ n))
theorem refKeyed:Keyed Tryz.prog 54:=int_keyed Tryz.underlying54
theorem zeroInt (w:World):(zeroValue 3).run Tryz.prog w=.ok (.int .i64 0) w:=by kernel_rfl
structure SeenOk (V:List Nat) (D:DM):Prop where
  im:IsMap D
  has:∀ r:Nat,r≤4294967295→(Maps.has D (.int .u32 r)=true↔r∈V)
  at_:∀ r:Nat,r≤4294967295→Maps.has D (.int .u32 r)=true→∀ z,D.atKey (.int .u32 r) z=.lit (.int .i64 1)
  dom:∀ k,Maps.has D k=true→∃ r:Nat,k=.int .u32 r∧r < 1048576
theorem SeenOk.nil:SeenOk [] (.map []):=⟨isMap_empty,fun r _=>by simp [Maps.has],fun r _ h=>by simp [Maps.has] at h,fun k h=>by simp [Maps.has] at h⟩
theorem SeenOk.put {V:List Nat} {D:DM} {r:Nat} (h:SeenOk V D) (hr:r < 1048576):SeenOk (V ++ [r]) (D.put (.int .u32 r) (.lit (.int .i64 1))):=by
  have hl:WideAt.IsKeyLit (.int .u32 (r:Int)):=trivial
  have inj:∀ x:Nat,x≠r→(Lit.int .u32 (x:Int))≠.int .u32 (r:Int):=fun x hx e=>hx (by simp at e; omega)
  refine ⟨h.im.put _ _,fun x hx=>?_,fun x hx hh z=>?_,fun k hk=>?_⟩
  · by_cases e:x=r
    · subst e; simp [has_put_same h.im hl]
    · rw [has_put_other (inj x e),h.has x hx]; simp [e]
  · by_cases e:x=r
    · subst e; exact atKey_put_same h.im hl _ z
    · rw [has_put_other (inj x e)] at hh
      rw [atKey_put_other (inj x e)]; exact h.at_ x hx hh z
  · by_cases e:k=.int .u32 (r:Int)
    · exact ⟨r,e,hr⟩
    · rw [has_put_other e] at hk; exact h.dom k hk
structure WalkM (w:World) (b ck ckk cf cw mb sb fl:Nat) (caps:Array Value) (ty:TypeId) (enc:Int→Value) (K:KV) (T:List DM) (q:KPtr) (D:DM) (s:Int):Prop where
  ker:KerIn w b K T q
  bk:w.heap[ck]?=some (.cells #[.map (some mb)] 212 (0,0))
  bkk:w.heap[ckk]?=some (.cells #[.pointer (some ⟨b,0,none⟩)] 26 (0,0))
  bf:w.heap[cf]?=some (.cells #[.func (Fn.func fl) #[] caps] 207 (0,0))
  bw:w.heap[cw]?=some (.cells #[.func (Fn.func 212) #[] #[.pointer (some ⟨ck,0,none⟩),.pointer (some ⟨ckk,0,none⟩),.pointer (some ⟨cf,0,none⟩),.pointer (some ⟨cw,0,none⟩)]] 237 (0,0))
  bs:w.heap[sb]?=some (.cells #[enc s] ty (0,0))
  map:w.ownsMap Tryz.prog 54 (plainElem Tryz.prog 3) mb (Maps.size D) D
  dq:∀ k,k∈q.all b→k≠ck∧k≠ckk∧k≠cf∧k≠cw∧k≠mb∧k≠sb
  dm:mb≠ck∧mb≠ckk∧mb≠cf∧mb≠cw∧mb≠sb
  ds:sb≠ck∧sb≠ckk∧sb≠cf∧sb≠cw
theorem WalkM.keep {w w':World} {b ck ckk cf cw mb sb fl:Nat} {caps:Array Value} {ty:TypeId} {enc:Int→Value} {K:KV} {T:List DM} {q:KPtr} {D:DM} {s:Int} (h:WalkM w b ck ckk cf cw mb sb fl caps ty enc K T q D s) (u:Upd [] w w') :
    WalkM w' b ck ckk cf cw mb sb fl caps ty enc K T q D s:=by
  have e:∀ {k:Nat} {o:Obj},w.heap[k]?=some o→w'.heap[k]?=some o:=fun {k o} hk=>by rw [u.block k (heap_lt hk) (by simp)]; exact hk
  exact ⟨h.ker.upd u (by simp),e h.bk,e h.bkk,e h.bf,e h.bw,e h.bs,own_keep h.map (u.block _ h.map.lt (by simp)),h.dq,h.dm,h.ds⟩
theorem WalkM.state {w w':World} {b ck ckk cf cw mb sb fl:Nat} {caps:Array Value} {ty:TypeId} {enc:Int→Value} {K:KV} {T:List DM} {q:KPtr} {D:DM} {s s':Int} (h:WalkM w b ck ckk cf cw mb sb fl caps ty enc K T q D s) (u:Upd [sb] w w') (hs:w'.heap[sb]?=some (.cells #[enc s'] ty (0,0))) :
    WalkM w' b ck ckk cf cw mb sb fl caps ty enc K T q D s':=by
  have e:∀ {k:Nat} {o:Obj},sb≠k→w.heap[k]?=some o→w'.heap[k]?=some o:=fun {k o} hn hk=>by rw [u.block k (heap_lt hk) (by simp; exact Ne.symm hn)]; exact hk
  exact ⟨h.ker.upd u (fun k hk hm=>by simp at hm; exact (h.dq k hk).2.2.2.2.2 hm),e h.ds.1 h.bk,e h.ds.2.1 h.bkk,e h.ds.2.2.1 h.bf,e h.ds.2.2.2 h.bw,hs,own_keep h.map (u.block _ h.map.lt (by simp; exact h.dm.2.2.2.2)),h.dq,h.dm,h.ds⟩
theorem WalkM.seen {w w':World} {b ck ckk cf cw mb sb fl:Nat} {caps:Array Value} {ty:TypeId} {enc:Int→Value} {K:KV} {T:List DM} {q:KPtr} {D D':DM} {s:Int} (h:WalkM w b ck ckk cf cw mb sb fl caps ty enc K T q D s) (u:Upd [mb] w w') (hm:w'.ownsMap Tryz.prog 54 (plainElem Tryz.prog 3) mb (Maps.size D') D') :
    WalkM w' b ck ckk cf cw mb sb fl caps ty enc K T q D' s:=by
  have e:∀ {k:Nat} {o:Obj},mb≠k→w.heap[k]?=some o→w'.heap[k]?=some o:=fun {k o} hn hk=>by rw [u.block k (heap_lt hk) (by simp; exact Ne.symm hn)]; exact hk
  exact ⟨h.ker.upd u (fun k hk hm=>by simp at hm; exact (h.dq k hk).2.2.2.2.1 hm),e h.dm.1 h.bk,e h.dm.2.1 h.bkk,e h.dm.2.2.1 h.bf,e h.dm.2.2.2.1 h.bw,e h.dm.2.2.2.2 h.bs,hm,h.dq,h.dm,h.ds⟩
end Go.Proofs.YtpfafhmkbcahhaaGreat
namespace Go.Proofs.YtpfafhmkbcahhaaGreat
open Go.RowKit Go.Maps Go.ChangeMaps Go.WideShapes
inductive KV.Under (K:KV) (r:Nat):Nat→Prop
  | refl (h:2≤r):K.Under r r
  | lo {x:Nat} {p:PlaceV} (h:K.Under r x) (hp:K.A.list[x]?=some p) (h2:2≤p.lo):K.Under r p.lo
  | hi {x:Nat} {p:PlaceV} (h:K.Under r x) (hp:K.A.list[x]?=some p) (h2:2≤p.hi):K.Under r p.hi
theorem KV.Under.trans {K:KV} {r s x:Nat} (h:K.Under r s) (k:K.Under s x):K.Under r x:=by
  induction k with
  | refl _=>exact h
  | lo _ hp h2 ih=>exact .lo ih hp h2
  | hi _ hp h2 ih=>exact .hi ih hp h2
structure WalkN (K:KV) (V:List Nat) (r:Nat) (N:List Nat):Prop where
  nd:(V ++ N).Nodup
  has:2≤r→r∈V ++ N
  two:∀ x,x∈N→2≤x∧K.A.tk x=true
  under:∀ x,x∈N→K.Under r x
  kids:∀ (x:Nat) (p:PlaceV),x∈N→K.A.list[x]?=some p→(p.lo < 2∨p.lo∈V ++ N)∧(p.hi < 2∨p.hi∈V ++ N)
theorem WalkN.none {K:KV} {V:List Nat} {r:Nat} (hv:V.Nodup) (h:r < 2∨r∈V):WalkN K V r [] :=
  ⟨by simpa using hv, fun h2 => by rcases h with h | h; · omega
                                   · simpa using h,by simp,by simp,by simp⟩
theorem WalkN.node {K:KV} {V N0 N1:List Nat} {r:Nat} {p:PlaceV} (h2:2≤r) (ht:K.A.tk r=true) (hp:K.A.list[r]?=some p) (W0:WalkN K (V ++ [r]) p.lo N0) (W1:WalkN K (V ++ [r] ++ N0) p.hi N1) :
    WalkN K V r (r :: (N0 ++ N1)):=by
  have e:V ++ r :: (N0 ++ N1)=V ++ [r] ++ N0 ++ N1:=by simp
  have in0:∀ x,x∈V ++ [r] ++ N0→x∈V ++ r :: (N0 ++ N1):=fun x hx=>by rw [e]; exact List.mem_append.2 (.inl hx)
  have in1:∀ x,x∈V ++ [r] ++ N0 ++ N1→x∈V ++ r :: (N0 ++ N1):=fun x hx=>by rw [e]; exact hx
  refine ⟨by rw [e]; exact W1.nd,fun _=>by simp,fun x hx=>?_,fun x hx=>?_,fun x c hx hc=>?_⟩
  · rcases List.mem_cons.1 hx with rfl | hx
    · exact ⟨h2,ht⟩
    · rcases List.mem_append.1 hx with hx | hx
      · exact W0.two x hx
      · exact W1.two x hx
  · have ulo:2≤p.lo→K.Under r p.lo:=fun h=>.lo (.refl h2) hp h
    have uhi:2≤p.hi→K.Under r p.hi:=fun h=>.hi (.refl h2) hp h
    have start:∀ {s x:Nat},K.Under s x→2≤s:=by
      intro s x h
      induction h with
      | refl h=>exact h
      | lo _ _ _ ih=>exact ih
      | hi _ _ _ ih=>exact ih
    rcases List.mem_cons.1 hx with rfl | hx
    · exact .refl h2
    · rcases List.mem_append.1 hx with hx | hx
      · have:=W0.under x hx
        exact (ulo (start this)).trans this
      · have:=W1.under x hx
        exact (uhi (start this)).trans this
  · rcases List.mem_cons.1 hx with rfl | hx
    · rw [hp] at hc; cases hc
      refine ⟨?_,?_⟩
      · by_cases h:p.lo < 2
        · exact .inl h
        · exact .inr (in0 _ (W0.has (by omega)))
      · by_cases h:p.hi < 2
        · exact .inl h
        · exact .inr (in1 _ (W1.has (by omega)))
    · rcases List.mem_append.1 hx with hx | hx
      · have:=W0.kids x c hx hc
        exact ⟨this.1.imp_right (in0 _),this.2.imp_right (in0 _)⟩
      · have:=W1.kids x c hx hc
        exact ⟨this.1.imp_right (in1 _),this.2.imp_right (in1 _)⟩
def KV.vof (K:KV) (x:Nat):Nat:=match K.A.list[x]? with | some p=>p.var.toNat | none=>0
end Go.Proofs.YtpfafhmkbcahhaaGreat
namespace Go.Proofs.YtpfafhmkbcahhaaGreat
open Go.RowKit Go.Maps Go.ChangeMaps Go.WideShapes
theorem own_emptyR {W:World} {mb:Nat} (h:W.heap[mb]?=some (.map #[] 0)):W.ownsMap Tryz.prog 54 (plainElem (H:=Unit) Tryz.prog 3) mb 0 (.map []):=by
  obtain ⟨es,clock,q1,q2,q3,q4⟩:=World.ownsMap_made W Tryz.prog 54 (plainElem (H:=Unit) Tryz.prog 3);rw [heap_alloc_new] at q1;cases q1;exact ⟨#[],0,h,q2,Nat.zero_le _,rfl⟩
inductive WalkL (K:KV):List Nat→List Nat→List Nat→Prop
  | nil (V:List Nat):WalkL K V [] []
  | cons {V N N':List Nat} {r:Nat} {rs:List Nat} (h:WalkN K V r N) (t:WalkL K (V ++ N) rs N'):WalkL K V (r :: rs) (N ++ N')
theorem WalkL.nodup {K:KV} {V rs N:List Nat} (h:WalkL K V rs N):V.Nodup→(V ++ N).Nodup:=by
  induction h with
  | nil V=>intro h; simpa using h
  | cons h t ih=>intro _; have:=ih h.nd; simpa [List.append_assoc] using this
end Go.Proofs.YtpfafhmkbcahhaaGreat
namespace Go.Proofs.YtpfafhmkbcahhaaGreat
open Go.RowKit Go.Maps Go.ChangeMaps Go.WideShapes
theorem Tryz.infoU64:(Tryz.prog.info? 96).map (fun i=>(i.zero,i.size,i.bytes))=some (some (.int .u64 0),1,8):=by kernel_rfl
def flatU (l:List Int):List Value:=l.map fun n=>Value.int .u64 n
def SupIs (K:KV) (r:Nat) (s:Int):Prop:=∃ N:List Nat,WalkL K [] [r] N∧s=N.foldl (fun s x=>supStep s (K.vof x)) 0
def SupL (K:KV) (rs:List Nat) (ss:List Int):Prop:=ss.length=rs.length∧∀ (i r:Nat) (s:Int),rs[i]?=some r→ss[i]?=some s→SupIs K r s
theorem SupL.nil (K:KV):SupL K [] []:=⟨rfl,fun i r s h=>by simp at h⟩
def bitT (s:Int) (v:Nat):Bool:=bits BinOp.and IntKind.u64 (s / 2 ^ v) 1 == 1
theorem madeU (n:Nat):(madeCells #[Value.int .u64 0] n).toList=List.replicate n (Value.int .u64 0):=by
  apply List.ext_getElem?
  intro i
  by_cases hi:i < n
  · simp [madeCells,hi,Nat.mod_one]
  · simp [madeCells,hi]
structure MatR (w:World) (g n:Nat) (M:List Int) (wr:World):Prop where
  row:wr.ownsRow w.heap.size 96 1 (.slice (some ⟨g,0,none⟩) n n) n (flatU M)
  len:M.length=n
  up:Upd [] w wr
theorem MatR.keep {w wr w2:World} {g n:Nat} {M:List Int} (h:MatR w g n M wr) (u:Upd [] wr w2):MatR w g n M w2 :=
  ⟨row_keep h.row fun k hk=>u.block k (h.row.lt k hk).2 (by simp),h.len,h.up.trans u⟩
theorem MatR.set {w wr:World} {g n v:Nat} {M:List Int} (h:MatR w g n M wr) (hv:v < n) (x:Int):MatR w g n (M.set v x) (wr.setCell ⟨g,v,none⟩ (.int .u64 x)):=by
  refine ⟨?_,by simpa using h.len,h.up.setCell (p:=⟨g,v,none⟩) (.inr (h.row.lt g rfl).1) _⟩;have:=row_set h.row (j:=v) (by omega) (.int .u64 x)
  have e:(flatU M).set v (.int .u64 x)=flatU (M.set v x):=by simp [flatU,List.map_set]
  rw [← e]; exact this
end Go.Proofs.YtpfafhmkbcahhaaGreat
