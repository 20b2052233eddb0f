import Derived.Test.YtfkopmhpppeheaaGreatPY18
set_option maxRecDepth 100000
set_option maxHeartbeats 3200000
namespace Go.Proofs.YtfkopmhpppeheaaGreat
open Go.RowKit Go.Maps Go.ChangeMaps Go.WideShapes
theorem Tryz.infoHold:(Tryz.prog.info? 264).map (fun i=>(i.zero,i.size,i.bytes))=some (some (.agg #[.int .i64 0,.slice none 0 0,.int .i64 0]),3,40):=by kernel_rfl
structure ModE (m:Nat) (p:MPtr) (Z:List Nat) (M':MV) (w w':World):Prop where
 ex:∃ p',ModIn w' m M' p' (Z++p'.all m)/\Upd (p.all m) w w'/\Sub (p.all m) w (p'.all m)
theorem ModE.same {m:Nat} {M:MV} {p:MPtr} {Z:List Nat} {w w':World} (h:ModIn w m M p Z) (u:Upd [] w w'):ModE m p Z M w w' :=
 ⟨p,(h.keep0 u).apart (fun k hk=>.inl (by rcases List.mem_append.1 hk with hk | hk;exact hk;exact h.sz k hk)) (fun k hk=>List.mem_append.2 (.inr hk)),u.mono (by simp),Sub.refl _ _⟩
def MV.exchE (M:MV) (l:Int):Int:=if l<0\/(M.n:Int)-2<l then 1 else if M.c<2+M.U l.toNat then 9 else 0
def MV.exch (M:MV) (l:Int):MV:=if M.exchE l=0 then { M with order:=turnL M.order l.toNat,trail:=M.trail++[l.toNat] } else M
theorem MV.U_le {M:MV} (h:M.Fit) (l:Nat):M.U l<=270336000:=by
 have h1:=unlikeT_len (M.lev.flatten++(levT (unlikeT M.tabs) (turnL M.order l)).flatten);rw [List.length_append] at h1;have h2:=h.lev_leS;have h3:=h.turn_leS l
 unfold MV.U;omega
structure ExchQ (m:Nat) (M:MV) (p:MPtr) (Z:List Nat) (l:Int) (w:World) (e:Ending) (w':World):Prop where
 ex:e=.returned (.int .i64 (M.exchE l))/\ModE m p Z (M.exch l) w w'
theorem exch9_spec (m:Nat) (M:MV) (p:MPtr) (Z:List Nat) (l:Int) (w:World) (h:ModIn w m M p Z) (hZ:∀ k,k∈Z->k<w.heap.size) (hf:M.Fit) (ho:M.order.length=M.n) (ht:M.trail.length<=1000000) :
  Calls Tryz.prog 64 #[.pointer (some ⟨m,0,none⟩),.int .i64 l] w fun e w'=>ExchQ m M p Z l w e w':=by
 obtain ⟨ti,hi2,hz2,hs2,hb2⟩:=info_parts Tryz.infoIntM;have HI:=Lib.hid (And.intro hi2 (And.intro hz2 (And.intro hs2 hb2)));obtain ⟨oa,oc,hov,_⟩:=row_nil_len h.os;obtain ⟨ta,tc,htv,_⟩:=row_nil_len h.ts;obtain ⟨c0,c1,c2,c3,c4⟩:=h.cells;rw [hov] at c2;rw [htv] at c4;have hos:=h.os;rw [hov] at hos;have hts:=h.ts;rw [htv] at hts;have HOS:=Lib.hid hos;have HTS:=Lib.hid hts;have HM:=Lib.hid h;have HV:=Lib.hid (And.intro hov htv)
 have HZ:Hid (∀ x:World,Upd [] w x->∀ k,k∈Z->k<x.heap.size):=fun x u k hk=>Nat.lt_of_lt_of_le (hZ k hk) u.size
 have HF:=Lib.hid hf;have hn6:=hf.n6;have hcb:=hf.cb;have HO:=Lib.hid ho;clear h hZ hf hov htv hos hts hi2 hz2 hs2 hb2 c3
 by_cases hl0:l<0
 ·have hd0:decide (l<0)=true:=by simpa using hl0
  have HX:Hid (M.exchE l=1):=by show _=_;unfold MV.exchE;rw [if_pos (.inl hl0)]
  clear ho
  go_enter Tryz.func64,Tryz.ntmps64
  go_wp2_with fail;go_ret;refine ⟨by rw [HX.out];rfl,?_⟩;rw [MV.exch,HX.out,if_neg (by decide)];exact ModE.same HM.out (Upd.refl _ _)
 have hd0:decide (l<0)=false:=by simpa using hl0
 have hsub:IntKind.i64.wrap ((M.n:Int)-2)=(M.n:Int)-2:=IntWalk.i64_in _ (by omega)
 by_cases hl1:(M.n:Int)-2<l
 ·have hd1:decide ((M.n:Int)-2<l)=true:=by simpa using hl1
  have HX:Hid (M.exchE l=1):=by show _=_;unfold MV.exchE;rw [if_pos (.inr hl1)]
  clear ho
  go_enter Tryz.func64,Tryz.ntmps64
  go_wp2_with fail;go_ret;refine ⟨by rw [HX.out];rfl,?_⟩;rw [MV.exch,HX.out,if_neg (by decide)];exact ModE.same HM.out (Upd.refl _ _)
 have hd1:decide ((M.n:Int)-2<l)=false:=by simpa using hl1
 obtain ⟨j,rfl⟩ : ∃ j:Nat,l=(j:Int):=⟨l.toNat,by omega⟩
 have hj:j+1<M.order.length:=by omega
 have hU:=MV.U_le HF.out j
 have HUC:Hid (∀ x:World,Upd [] w x->Calls Tryz.prog 72 #[.pointer (some ⟨m,0,none⟩),.int .i64 j] x fun e w'=>e=.returned (.int .i64 (M.U j:Nat))/\Upd [] x w'):=fun x u=>u_spec m M p Z j x (HM.out.keep0 u) (HZ.out x u) HF.out hj
 have HEE:Hid (M.exchE j=if M.c<2+M.U j then 9 else 0):=by show _=_;unfold MV.exchE;rw [if_neg (by omega),Int.toNat_natCast]
 generalize M.U j=U at *;have hw2:IntKind.i64.wrap (2+(U:Int))=2+(U:Int):=IntWalk.i64_in _ (by omega)
 by_cases hc:M.c<2+U
 ·have hdc:decide ((M.c:Int)<2+(U:Int))=true:=by simp;omega
  have HX:Hid (M.exchE j=9):=by show _=_;rw [HEE.out,if_pos hc]
  clear hc ho
  go_enter Tryz.func64,Tryz.ntmps64
  go_wp2_with fail
  go_region_held3 (fun w'=>w'.cell? ⟨m,1,none⟩=some (.int .i64 M.c)) (first | exact c1 | exact HS.out.cell0 c1) (first | (go_at_call 72;refine (HUC.out _ (Upd.refl _ _).drew).mono ?_;rintro e w4 ⟨rfl,hu⟩;have HS:=Lib.hid hu.of_drew;clear hu))
  go_wp2_with fail;go_ret;refine ⟨by rw [HX.out];rfl,?_⟩;rw [MV.exch,HX.out,if_neg (by decide)];exact ModE.same HM.out HS.out
 ·have hdc:decide ((M.c:Int)<2+(U:Int))=false:=by simp;omega
  have HX:Hid (M.exchE j=0):=by show _=_;rw [HEE.out,if_neg hc]
  clear hc ho
  go_enter Tryz.func64,Tryz.ntmps64
  go_wp2_with fail
  go_region_held3 (fun w'=>w'.cell? ⟨m,1,none⟩=some (.int .i64 M.c)) (first | exact c1 | exact HS.out.cell0 c1) (first | (go_at_call 72;refine (HUC.out _ (Upd.refl _ _).drew).mono ?_;rintro e w4 ⟨rfl,hu⟩;have HS:=Lib.hid hu.of_drew;clear hu))
  have d2:=HS.out.cell0 c2;have d4:=HS.out.cell0 c4;have HTC:=Lib.hid (turned_spec 0 _ M.order j w4 (row_keep HOS.out fun k hk=>HS.out.block k (HOS.out.lt k hk).2 (by simp)) hj (by have:=HF.out.ol;omega));clear hdc hw2 hd0 hd1 hsub c0 c1 c2 c4;go_wp2_with fail;refine HTC.out.mono ?_;rintro e w5 hE;obtain ⟨tg,tcc,rfl,hN,hu⟩:=hE.ex;have HN:=Lib.hid (And.intro hN hu);have hbk:=(HS.out.trans hu).block m (heap_lt HM.out.blk) (by simp);rw [HM.out.blk] at hbk;have fz2:w5.frozen? ⟨m,2,none⟩=false:=frozen_at 2 hbk;have e2:=hu.cell0 d2;have e4:=hu.cell0 d4;have hb2:=heap_set_eq (j:=2) hbk (.slice (some ⟨tg,0,none⟩) M.order.length tcc);have fz4:=frozen_at 4 hb2;have k4:(w5.setCell ⟨m,2,none⟩ (.slice (some ⟨tg,0,none⟩) M.order.length tcc)).cell? ⟨m,4,none⟩=some (.slice ta M.trail.length tc):=cell_at hb2 (by rw [<- HV.out.2];rfl);have HB2:=Lib.hid (And.intro hb2 (HS.out.trans hu))
  have hmt:∀ k,(Value.slice ta M.trail.length tc).ownBlock=some k->k≠m:=fun k hk e=>by
   subst e;obtain ⟨c1,f1,e1⟩:=row_type HTS.out hk;have e2:=HM.out.blk;rw [e1] at e2
   injection e2 with e2
   injection e2 with _ e2 _
   exact absurd e2 (by decide)
  have htr5:w5.ownsRow 0 3 1 (.slice ta M.trail.length tc) M.trail.length (flatN M.trail):=row_keep HTS.out fun k hk=>(HS.out.trans hu).block k (HTS.out.lt k hk).2 (by simp)
  have HTR:Hid ((w5.setCell ⟨m,2,none⟩ (.slice (some ⟨tg,0,none⟩) M.order.length tcc)).ownsRow 0 3 1 (.slice ta M.trail.length tc) M.trail.length (flatN M.trail)):=row_ne htr5 (fun e=>hmt m e.symm rfl) _
  have HC2:Hid (∀ u,u∈[Value.int .i64 j]->u.oneCell'=true):=by intro u hu;simp at hu;subst hu;rfl
  have HMT:=Lib.hid hmt;clear hE hN hu d2 d4 hbk hb2 HTC htr5 hmt
  go_wp2_with (at_builtin;go_must (refine wpList_append_lies _ rfl (.tmp 40) (.tmp 42) 23 rfl 0 3 ti _ 1 8 Tryz.underlying23 HI.out.1 HI.out.2.1 HI.out.2.2.1 HI.out.2.2.2 (by rfl) (by decide) _ M.trail.length (flatN M.trail) rfl (HTR.out.alloc _) ⟨w5.heap.size,0,none⟩ 1 1 [.int .i64 j] rfl rfl ?c1 HC2.out (by omega) (by unfold maxLen;omega) (by omega) (by omega) _ rfl ?_))
  case c1=>exact World.news_of_block (by
   have:=heap_alloc_new (w5.setCell ⟨m,2,none⟩ (.slice (some ⟨tg,0,none⟩) M.order.length tcc)) (.cells #[.int .i64 j] 3 (0,0))
   rw [World.size_setCell] at this;exact this)
  intro g6 cap w6 hown hgr hat hlt6
  have hb6:w6.heap[m]?=some (.cells #[.int .i64 M.n,.int .i64 M.c,.slice (some ⟨tg,0,none⟩) M.order.length tcc,p.hv,p.tv] 53 (0,0)):=by
   have hne:some m≠(Value.slice ta M.trail.length tc).ownBlock:=fun e=>HMT.out m e.symm rfl
   rw [hgr.block m (by rw [World.size_alloc,World.size_setCell];have:=heap_lt HM.out.blk;have:=HB2.out.2.size;omega) hne,Below.heap_alloc _ _ _ (heap_lt HB2.out.1)];exact HB2.out.1
  have fz6:w6.frozen? ⟨m,4,none⟩=false:=frozen_at 4 hb6;have e6:w6.cell? ⟨m,4,none⟩=some p.tv:=cell_at hb6 rfl;have hb7:=heap_set_eq (j:=4) hb6 (.slice (some ⟨g6,0,none⟩) (M.trail.length+1) cap)
  have HE:Hid (ModE m p Z { M with order:=turnL M.order j,trail:=M.trail++[j] } w (w6.setCell ⟨m,4,none⟩ (.slice (some ⟨g6,0,none⟩) (M.trail.length+1) cap))):=by
   have hlm:=heap_lt HM.out.blk;have hz5:=HB2.out.2.size;have hz4:=HS.out.size;have htg:=HN.out.1.lt tg rfl
   have hS0:∀ k,k∈m::(Value.slice ta M.trail.length tc).ownBlock.toList->k=m\/(Value.slice ta M.trail.length tc).ownBlock=some k:=fun k hk=>by
    rcases List.mem_cons.1 hk with h | h
    ·exact .inl h
    ·exact .inr (Option.mem_toList.1 h)
   have u6:Upd (m::(Value.slice ta M.trail.length tc).ownBlock.toList) w (w6.setCell ⟨m,4,none⟩ (.slice (some ⟨g6,0,none⟩) (M.trail.length+1) cap)):=by
    have a1:Upd (m::(Value.slice ta M.trail.length tc).ownBlock.toList) w w5:=HB2.out.2.mono (by simp);exact ((((a1.setCell (p:=⟨m,2,none⟩) (.inl (by simp)) _).alloc _).grown hgr fun k hk=>.inl (by rw [hk];simp))).setCell (p:=⟨m,4,none⟩) (.inl (by simp)) _
   have hpa:∀ k,(Value.slice ta M.trail.length tc).ownBlock=some k->k∈p.all m:=fun k hk=>MPtr.mem.2 (.inr (.inr (.inr (by rw [HV.out.2];exact hk))))
   have hg6:g6≠m/\tg≠g6/\((Value.slice ta M.trail.length tc).ownBlock=some g6\/w.heap.size<=g6):=by
    rcases hat with e | e
    ·have:=(HTS.out.lt g6 e).2
     exact ⟨HMT.out g6 e,by omega,.inl e⟩
    ·exact ⟨by omega,by omega,.inr (by omega)⟩
   have hsz:∀ k,k∈p.all m->k∈Z:=HM.out.sz
   have hrow:(w6.setCell ⟨m,4,none⟩ (.slice (some ⟨g6,0,none⟩) (M.trail.length+1) cap)).ownsRow 0 3 1 (.slice (some ⟨tg,0,none⟩) M.order.length tcc) M.order.length (flatN (turnL M.order j)):=by
    have r5:=row_base HN.out.1 (Nat.zero_le _);have r5':=row_ne r5 (a:=⟨m,2,none⟩) (by simp only [Value.ownBlock,ne_eq,Option.some.injEq];omega) (.slice (some ⟨tg,0,none⟩) M.order.length tcc);refine row_ne (row_keep (r5'.alloc (.cells #[.int .i64 j] 3 (0,0))) fun k hk=>?_) (by simp only [Value.ownBlock,ne_eq,Option.some.injEq];omega) _
    simp only [Value.ownBlock,Option.some.injEq] at hk
    subst hk
    refine hgr.block tg (by rw [World.size_alloc,World.size_setCell];omega) fun e=>?_
    have:=(HTS.out.lt tg e.symm).2;omega
   refine ⟨⟨.slice (some ⟨tg,0,none⟩) M.order.length tcc,p.hv,.slice (some ⟨g6,0,none⟩) (M.trail.length+1) cap⟩,⟨hb7,by rw [turnL_len];exact hrow,?_,?_,?_,fun k hk=>List.mem_append.2 (.inr hk)⟩,u6.mono fun k hk=>?_,fun k hk=>?_⟩
   ·refine (HM.out.hs.apart (Z':=Z++MPtr.all ⟨.slice (some ⟨tg,0,none⟩) M.order.length tcc,p.hv,.slice (some ⟨g6,0,none⟩) (M.trail.length+1) cap⟩ m) fun k hk=>?_).keep u6 (fun k hk=>?_) fun k hk hm=>?_
    ·rcases List.mem_append.1 hk with hk | hk
     ·exact .inl hk
     ·rcases MPtr.mem.1 hk with rfl | h | h | h
      ·exact .inl (hsz _ (MPtr.mem.2 (.inl rfl)))
      ·simp [Value.ownBlock] at h;subst h;right;omega
      ·exact .inl (hsz _ (MPtr.mem.2 (.inr (.inr (.inl h)))))
      ·simp [Value.ownBlock] at h;subst h
       rcases hg6.2.2 with h | h
       ·exact .inl (hsz _ (hpa _ h))
       ·exact .inr h
    ·left
     rcases hS0 k hk with rfl | h
     ·exact List.mem_append.2 (.inl (hsz _ (MPtr.mem.2 (.inl rfl))))
     ·exact List.mem_append.2 (.inl (hsz _ (hpa k h)))
    ·obtain ⟨xs,hr⟩:=HM.out.hs.row
     obtain ⟨c1,f1,e1⟩:=row_type hr hk
     rcases hS0 k hm with rfl | h
     ·rw [HM.out.blk] at e1
      injection e1 with e1
      injection e1 with _ e1 _
      exact absurd e1 (by decide)
     ·obtain ⟨c2,f2,e2⟩:=row_type HTS.out h
      rw [e1] at e2
      injection e2 with e2
      injection e2 with _ e2 _
      exact absurd e2 (by decide)
   ·have e:flatN (M.trail++[j])=flatN M.trail++[.int .i64 j]:=by simp [flatN]
    show (w6.setCell _ _).ownsRow 0 _ 1 _ (M.trail++[j]).length _
    rw [List.length_append,List.length_singleton]
    show (w6.setCell _ _).ownsRow 0 _ 1 _ (M.trail.length+1) (flatN (M.trail++[j]))
    rw [e];exact row_ne hown (by simp only [Value.ownBlock,ne_eq,Option.some.injEq];exact fun e=>hg6.1 e.symm) _
   ·intro k hk
    simp only [Value.ownBlock,Option.some.injEq] at hk ⊢
    subst hk
    exact fun e=>hg6.2.1 (Option.some.inj e).symm
   ·rcases hS0 k hk with rfl | h
    ·exact MPtr.mem.2 (.inl rfl)
    ·exact hpa k h
   ·rcases MPtr.mem.1 hk with rfl | h | h | h
    ·exact .inl (MPtr.mem.2 (.inl rfl))
    ·simp [Value.ownBlock] at h;subst h;right;omega
    ·exact .inl (MPtr.mem.2 (.inr (.inr (.inl h))))
    ·simp [Value.ownBlock] at h;subst h
     rcases hg6.2.2 with h | h
     ·exact .inl (hpa _ h)
     ·exact .inr h
  clear hown hgr hat hlt6 hb6 hb7;go_wp2_with fail;go_ret;refine ⟨by rw [HX.out];rfl,?_⟩;rw [MV.exch,HX.out,if_pos rfl,Int.toNat_natCast];exact HE.out
def incL:List (TV × Nat)->TV->List (TV × Nat)
 | [],t=>[(t,1)]
 | h::H,t=>if h.1=t then (h.1,h.2+1)::H else h::incL H t
def MV.hold1E (M:MV) (t:TV):Int:=if t.isC then 0 else if 65535<=M.holds t then 8 else 0
def MV.hold1 (M:MV) (t:TV):MV:=if t.isC then M else if 65535<=M.holds t then M else { M with held:=incL M.held t }
theorem incL_at:∀ {H:List (TV × Nat)} {t:TV} {i:Nat} {u:TV × Nat},H[i]?=some u->u.1=t->(∀ h,h∈H.take i->h.1≠t)->incL H t=H.set i (u.1,u.2+1)
 | [],_,_,_,h,_,_=>by simp at h
 | a::H,t,0,u,h,e,_=>by simp at h;subst h;simp [incL,e]
 | a::H,t,i+1,u,h,e,hno=>by
  have h1:a.1≠t:=hno a (by simp)
  simp only [incL,if_neg h1,List.set_cons_succ]
  rw [incL_at (i:=i) (by simpa using h) e fun b hb=>hno b (by simp [hb])]
theorem incL_no:∀ {H:List (TV × Nat)} {t:TV},(∀ h,h∈H->h.1≠t)->incL H t=H++[(t,1)]
 | [],_,_=>rfl
 | a::H,t,hno=>by
  simp only [incL,if_neg (hno a (by simp)),List.cons_append]
  rw [incL_no fun b hb=>hno b (by simp [hb])]
theorem flatH_setc {H:List (TV × Nat)} {cs:List Value} (hl:cs.length=H.length) {i:Nat} {u:TV × Nat} (hu:H[i]?=some u) (k:Nat):(flatH H cs).set (i*3+2) (.int .i64 k)=flatH (H.set i (u.1,k)) cs:=by
 induction H generalizing cs i with
 | nil=>simp at hu
 | cons a L ih =>
  cases cs with
  | nil=>simp at hl
  | cons d cs =>
   have hl':cs.length=L.length:=by simpa using hl
   have e:flatH (a::L) (d::cs)=Value.int .i64 a.1.n::d::.int .i64 a.2::flatH L cs:=rfl
   cases i with
   | zero=>simp at hu;subst hu;rw [e];rfl
   | succ i =>
    simp at hu
    have e3:(i+1)*3+2=i*3+2+1+1+1:=by omega
    rw [e,e3,List.set_cons_succ,List.set_cons_succ,List.set_cons_succ,ih hl' hu,List.set_cons_succ];rfl
theorem HLs.setCount {w:World} {Z:List Nat} {g n c i k:Nat} {H:List (TV × Nat)} {u:TV × Nat} (h:HLs w Z (.slice (some ⟨g,0,none⟩) n c) H) (hg:g∈Z) (hu:H[i]?=some u):HLs (w.setCell ⟨g,i*3+2,none⟩ (.int .i64 k)) Z (.slice (some ⟨g,0,none⟩) n c) (H.set i (u.1,k)):=by
 obtain ⟨cs,h1,h2,h3⟩:=h.ex;have hil:i<H.length:=(List.getElem?_eq_some_iff.1 hu).1;refine ⟨cs,by rw [List.length_set];exact h1,?_,fun j v d hv hd=>?_⟩
 ·rw [List.length_set,<- flatH_setc h1 hu]
  exact row_set h2 (by omega) _
 ·have hu2:Upd Z w (w.setCell ⟨g,i*3+2,none⟩ (.int .i64 k)):=(Upd.refl Z w).setCell (p:=⟨g,i*3+2,none⟩) (.inl hg) _
  by_cases e:j=i
  ·subst e
   rw [List.getElem?_set_self hil] at hv;cases hv
   exact (h3 j u d hu hd).keep hu2 fun k hk=>.inl hk
  ·rw [List.getElem?_set_ne (Ne.symm e)] at hv
   exact (h3 j v d hv hd).keep hu2 fun k hk=>.inl hk
theorem ModE.setCount {m:Nat} {M:MV} {p:MPtr} {Z:List Nat} {w w':World} {g n c i k:Nat} {u:TV × Nat} (h:ModIn w m M p Z) (uu:Upd [] w w') (hv:p.hv=.slice (some ⟨g,0,none⟩) n c) (hu:M.held[i]?=some u) :
  ModE m p Z { M with held:=M.held.set i (u.1,k) } w (w'.setCell ⟨g,i*3+2,none⟩ (.int .i64 k)):=by
 have h':=h.keep0 uu;have hg:g∈p.all m:=MPtr.mem.2 (.inr (.inr (.inl (by rw [hv];rfl))));obtain ⟨xs,hr⟩:=h'.hs.row;obtain ⟨c1,f1,e1⟩:=row_type hr (k:=g) (by rw [hv];rfl)
 have hgm:m≠g:=fun e=>by
  subst e;rw [h'.blk] at e1
  injection e1 with e1
  injection e1 with _ e1 _
  exact absurd e1 (by decide)
 have ho:some g≠p.ov.ownBlock:=fun e=>by
  obtain ⟨c2,f2,e2⟩:=row_type h'.os e.symm;rw [e1] at e2
  injection e2 with e2
  injection e2 with _ e2 _
  exact absurd e2 (by decide)
 have ht:some g≠p.tv.ownBlock:=fun e=>by
  obtain ⟨c2,f2,e2⟩:=row_type h'.ts e.symm;rw [e1] at e2
  injection e2 with e2
  injection e2 with _ e2 _
  exact absurd e2 (by decide)
 have hs:=h'.hs;rw [hv] at hs;refine ⟨p,⟨by rw [heap_set_ne hgm];exact h'.blk,row_ne h'.os ho _,?_,row_ne h'.ts ht _,h'.ne,fun k hk=>List.mem_append.2 (.inr hk)⟩,(uu.mono (by simp)).setCell (p:=⟨g,i*3+2,none⟩) (.inl hg) _,Sub.refl _ _⟩;rw [hv]
 refine (hs.setCount (h'.sz g hg) hu).apart fun x hx=>.inl ?_
 rcases List.mem_append.1 hx with hx | hx
 ·exact hx
 ·exact h'.sz x hx
theorem ModE.pushHeld {m:Nat} {M:MV} {p:MPtr} {Z:List Nat} {w w1 w5:World} {a:Option Addr} {n c g5 cap k:Nat} {d:Value} {t:TV} {X:Obj} {xs:List Value} (h:ModIn w m M p Z) (uu:Upd [] w w1) (hv:p.hv=.slice a n c) (ht:TIn w Z d t)
  (hrow:w1.ownsRow 0 264 3 (.slice a n c) M.held.length xs) (hgr:(w1.alloc X).grownBy w5 (Value.slice a n c).ownBlock) (hat:(Value.slice a n c).ownBlock=some g5\/g5=w1.heap.size+1)
  (hown:w5.ownsRow 0 264 3 (.slice (some ⟨g5,0,none⟩) (M.held.length+1) cap) (M.held.length+1) (xs++[.int .i64 t.n,d,.int .i64 k])) :
  ModE m p Z { M with held:=M.held++[(t,k)] } w (w5.setCell ⟨m,3,none⟩ (.slice (some ⟨g5,0,none⟩) (M.held.length+1) cap)):=by
 have h':=h.keep0 uu;obtain ⟨cs,b1,b2,b3⟩:=h'.hs.ex;rw [hv] at b2;obtain rfl:=row_inj hrow b2 rfl;have hlm:=heap_lt h.blk;have hz:=uu.size
 have hpa:∀ k,(Value.slice a n c).ownBlock=some k->k∈p.all m:=fun k hk=>MPtr.mem.2 (.inr (.inr (.inl (by rw [hv];exact hk))))
 have hmt:∀ k,(Value.slice a n c).ownBlock=some k->k≠m:=fun k hk e=>by
  subst e;obtain ⟨c1,f1,e1⟩:=row_type hrow hk;have e2:=h'.blk;rw [e1] at e2
  injection e2 with e2
  injection e2 with _ e2 _
  exact absurd e2 (by decide)
 have hg:g5≠m/\((Value.slice a n c).ownBlock=some g5\/w.heap.size<=g5):=by
  rcases hat with e | e
  ·exact ⟨hmt g5 e,.inl e⟩
  ·exact ⟨by omega,.inr (by omega)⟩
 have hS0:∀ k,k∈m::(Value.slice a n c).ownBlock.toList->k=m\/(Value.slice a n c).ownBlock=some k:=fun k hk=>by
  rcases List.mem_cons.1 hk with h | h
  ·exact .inl h
  ·exact .inr (Option.mem_toList.1 h)
 have u6:Upd (m::(Value.slice a n c).ownBlock.toList) w (w5.setCell ⟨m,3,none⟩ (.slice (some ⟨g5,0,none⟩) (M.held.length+1) cap)) :=
  ((((uu.mono (by simp)).alloc X).grown hgr fun k hk=>.inl (by rw [hk];simp))).setCell (p:=⟨m,3,none⟩) (.inl (by simp)) _
 have hb5:w5.heap[m]?=some (.cells #[.int .i64 M.n,.int .i64 M.c,p.ov,p.hv,p.tv] 53 (0,0)):=by
  rw [hgr.block m (by rw [World.size_alloc];omega) (fun e=>hmt m e.symm rfl),Below.heap_alloc _ _ _ (by omega)];exact h'.blk
 have hb7:=heap_set_eq (j:=3) hb5 (.slice (some ⟨g5,0,none⟩) (M.held.length+1) cap)
 have keepI:∀ {v:Value} {l:List Nat},w.ownsRow 0 3 1 v l.length (flatN l)->(w5.setCell ⟨m,3,none⟩ (.slice (some ⟨g5,0,none⟩) (M.held.length+1) cap)).ownsRow 0 3 1 v l.length (flatN l):=fun {v l} hr=>row_keep hr fun k hk=>u6.block k (hr.lt k hk).2 fun hm=>by
  obtain ⟨c1,f1,e1⟩:=row_type hr hk
  rcases hS0 k hm with rfl | hh
  ·rw [h.blk] at e1
   injection e1 with e1
   injection e1 with _ e1 _
   exact absurd e1 (by decide)
  ·obtain ⟨c2,f2,e2⟩:=row_type hrow hh
   rw [uu.block k (hr.lt k hk).2 (by simp),e1] at e2
   injection e2 with e2
   injection e2 with _ e2 _
   exact absurd e2 (by decide)
 refine ⟨⟨p.ov,.slice (some ⟨g5,0,none⟩) (M.held.length+1) cap,p.tv⟩,⟨hb7,keepI h.os,⟨cs++[d],by simp [b1],?_,fun i u e hu he=>?_⟩,keepI h.ts,h.ne,fun k hk=>List.mem_append.2 (.inr hk)⟩,u6.mono fun k hk=>?_,fun k hk=>?_⟩
 ·rw [flatH_snoc b1,List.length_append,List.length_singleton]
  exact row_ne hown (by simp only [Value.ownBlock,ne_eq,Option.some.injEq];exact fun e=>hg.1 e.symm) _
 ·have hap:Sub Z w (Z++MPtr.all ⟨p.ov,.slice (some ⟨g5,0,none⟩) (M.held.length+1) cap,p.tv⟩ m):=fun k hk=>by
   rcases List.mem_append.1 hk with hk | hk
   ·exact .inl hk
   ·rcases MPtr.mem.1 hk with rfl | h1 | h1 | h1
    ·exact .inl (h.sz _ (MPtr.mem.2 (.inl rfl)))
    ·exact .inl (h.sz _ (MPtr.mem.2 (.inr (.inl h1))))
    ·simp [Value.ownBlock] at h1;subst h1
     rcases hg.2 with h2 | h2
     ·exact .inl (h.sz _ (hpa _ h2))
     ·exact .inr h2
    ·exact .inl (h.sz _ (MPtr.mem.2 (.inr (.inr (.inr h1)))))
  have hSZ:∀ k,k∈m::(Value.slice a n c).ownBlock.toList->k∈Z++MPtr.all ⟨p.ov,.slice (some ⟨g5,0,none⟩) (M.held.length+1) cap,p.tv⟩ m\/w.heap.size<=k:=fun k hk=>by
   rcases hS0 k hk with rfl | h1
   ·exact .inl (List.mem_append.2 (.inl (h.sz _ (MPtr.mem.2 (.inl rfl)))))
   ·exact .inl (List.mem_append.2 (.inl (h.sz _ (hpa k h1))))
  by_cases hi:i<M.held.length
  ·rw [List.getElem?_append_left hi] at hu
   rw [List.getElem?_append_left (by omega)] at he;have h9:=b3 i u e hu he;obtain ⟨cs0,d1,d2,d3⟩:=h.hs.ex
   have hcs:cs0[i]?=some e:=by
    have e1:=(flatH_get b1 hu he).2.1
    have hw0:w1.ownsRow 0 264 3 (.slice a n c) M.held.length (flatH M.held cs0):=by
     rw [hv] at d2
     exact row_keep d2 fun k hk=>uu.block k (d2.lt k hk).2 (by simp)
    have e2:=row_inj hrow hw0 rfl;have e3:cs0[i]?=some (cs0[i]'(by omega)):=List.getElem?_eq_getElem (by omega);have e4:=(flatH_get d1 hu e3).2.1;rw [<- e2,e1] at e4
    rw [e3];exact e4.symm
   exact ((d3 i u e hu hcs).apart hap).keep u6 hSZ
  ·rw [List.getElem?_append_right (by omega)] at hu
   rw [List.getElem?_append_right (by omega),b1] at he
   cases e0:i-M.held.length with
   | zero=>rw [e0] at hu he;simp at hu he;subst hu he;exact (ht.apart hap).keep u6 hSZ
   | succ j=>rw [e0] at hu;simp at hu
 ·rcases hS0 k hk with rfl | h1
  ·exact MPtr.mem.2 (.inl rfl)
  ·exact hpa k h1
 ·rcases MPtr.mem.1 hk with rfl | h1 | h1 | h1
  ·exact .inl (MPtr.mem.2 (.inl rfl))
  ·exact .inl (MPtr.mem.2 (.inr (.inl h1)))
  ·simp [Value.ownBlock] at h1;subst h1
   rcases hg.2 with h2 | h2
   ·exact .inl (hpa _ h2)
   ·exact .inr h2
  ·exact .inl (MPtr.mem.2 (.inr (.inr (.inr h1))))
structure Hold1Q (m:Nat) (M:MV) (p:MPtr) (Z:List Nat) (t:TV) (w:World) (e:Ending) (w':World):Prop where
 ex:e=.returned (.int .i64 (M.hold1E t))/\ModE m p Z (M.hold1 t) w w'
theorem hold1_spec (m:Nat) (M:MV) (p:MPtr) (Z:List Nat) (c:Value) (t:TV) (w:World) (h:ModIn w m M p Z) (hZ:∀ k,k∈Z->k<w.heap.size) (ht:TIn w Z c t) (hl:M.held.length<=4194304) (hm:∀ u,u∈M.held->u.2<=65535) :
  Calls Tryz.prog 139 #[.pointer (some ⟨m,0,none⟩),tabV t c] w fun e w'=>Hold1Q m M p Z t w e w':=by
 obtain ⟨ti,hi2,hz2,hs2,hb2⟩:=info_parts Tryz.infoHold;have HI:=Lib.hid (And.intro hi2 (And.intro hz2 (And.intro hs2 hb2)));obtain ⟨ta,tc,rfl,_⟩:=row_nil_len ht.row;obtain ⟨fa,fc,hfv,hfa⟩:=h.hs.form;obtain ⟨_,_,_,c3,_⟩:=h.cells;rw [hfv] at c3;have hs:=h.hs;rw [hfv] at hs;have HL:=Lib.hid hs;have HT:=Lib.hid ht;have HM:=Lib.hid h;have HFV:=Lib.hid hfv;have HMX:=Lib.hid hm
 have HZ:Hid (∀ x:World,Upd [] w x->∀ k,k∈Z->k<x.heap.size):=fun x u k hk=>Nat.lt_of_lt_of_le (hZ k hk) u.size
 have HU0:=Lib.hid ((Upd.refl [] w).alloc (.cells #[.int .i64 t.n,.slice ta t.ws.length tc] 122 (0,0)));have hb:=boxT w (.int .i64 t.n) (.slice ta t.ws.length tc)
 have HSM:Hid (∀ (x:World) (d:Value) (u:TV),Upd [] w x->TIn x Z d u->Calls Tryz.prog 57 #[tabV u d,tabV t (.slice ta t.ws.length tc)] x fun e w'=>e=.returned (.bool (decide (u=t)))/\Upd [] x w'):=fun x d u hx hd=>same_spec Z d _ u t x hd (ht.keep0 hx)
 have HIC:Hid (∀ x:World,Upd [] w x->Calls Tryz.prog 188 #[tabV t (.slice ta t.ws.length tc)] x fun e w'=>e=.returned (.bool t.isC)/\Upd [] x w'):=fun x u=>isconst_spec Z _ t x (ht.keep0 u) (HZ.out x u)
 have HWN:Hid (t.ws.length=t.ws.length/\t.n=t.n):=⟨rfl,rfl⟩;unfold tabV at HSM HIC ⊢;generalize hW:t.ws.length=W at *;generalize hn:t.n=n at *;have HN:=Lib.hid (And.intro hW hn);obtain ⟨b0,b1⟩:=hb
 have HB:Hid (∀ x:World,Upd [] (w.alloc (.cells #[.int .i64 n,.slice ta W tc] 122 (0,0))) x->x.cell? ⟨w.heap.size,0,none⟩=some (.int .i64 n)/\x.cell? ⟨w.heap.size,1,none⟩=some (.slice ta W tc)):=fun x u=>boxT_keep u ⟨b0,b1⟩
 clear h hfv hs ht hZ hW hn hm hi2 hz2 hs2 hb2
 cases hc:t.isC with
 | true =>
  have HX:Hid (M.hold1E t=0/\M.hold1 t=M):=⟨by unfold MV.hold1E;rw [if_pos hc],by unfold MV.hold1;rw [if_pos hc]⟩;have HC:=Lib.hid hc;clear hc
  go_enter Tryz.func139,Tryz.ntmps139
  go_wp2_with fail;refine (HIC.out _ HU0.out).mono ?_;rintro e w1 ⟨rfl,hu⟩;rw [HC.out];have HU:=Lib.hid (HU0.out.trans hu);clear hu b0 b1;go_wp2_with fail;go_ret;exact ⟨by rw [HX.out.1];rfl,by rw [HX.out.2];exact ModE.same HM.out HU.out⟩
 | false =>
  have HC:=Lib.hid hc;clear hc
  go_enter Tryz.func139,Tryz.ntmps139
  go_wp2_with fail;refine (HIC.out _ HU0.out).mono ?_;rintro e w1 ⟨rfl,hu⟩;rw [HC.out];have HU:=Lib.hid (HU0.out.trans hu);have HUB:=Lib.hid hu;clear hu b0 b1;go_wp2_with fail
  go_loopg [5] M.held.length (fun g s5 wr=>∃ i:Nat,M.held.length-i=g/\i<=M.held.length/\s5=.int .i64 i/\(∀ h,h∈M.held.take i->h.1≠t)/\Upd [] w1 wr)
  case atStart=>exact ⟨0,by omega,by omega,rfl,by simp,Upd.refl _ _⟩
  case round =>
   obtain ⟨i,rfl,hi,rfl,hno,hU⟩:=hrel;have hUw:=HU.out.trans hU;have d3:=hUw.cell0 c3
   by_cases hlt:i<M.held.length
   ·obtain ⟨u,hu⟩ : ∃ u,M.held[i]?=some u:=⟨_,List.getElem?_eq_getElem hlt⟩
    obtain ⟨ga,rfl⟩:=hfa (by omega);obtain ⟨cu,x0,x1,x2,htu⟩:=(HL.out.keep hUw (by simp) (by simp)).at_ hu;obtain ⟨ua,uc,hcu,_⟩:=row_nil_len htu.row;subst hcu
    have hil:(i:Int)<(M.held.length:Int):=by omega
    obtain ⟨y0,y1⟩:=HB.out _ (HUB.out.trans hU);have HS1:=Lib.hid (HSM.out wr.drew _ u.1 hUw.drew (htu.keep0 (Upd.refl _ _).drew));have HNN:=Lib.hid (And.intro hu (And.intro hno hU));have hk16:=HMX.out u (List.mem_of_getElem? hu)
    have fz2:wr.frozen? ⟨ga,i*3+2,none⟩=false:=by
     obtain ⟨xs,hr⟩:=(HL.out.keep hUw (by simp) (by simp)).row;exact row_frozen hr _
    obtain ⟨q,k⟩:=u
    simp only at *
    generalize q.ws.length=UW at *;generalize q.n=un at *;clear hu htu hno hU
    have HX2:Hid (∀ x:World,Upd [] wr x->x.cell? ⟨m,3,none⟩=some (.slice (some ⟨ga,0,none⟩) M.held.length fc)/\x.cell? ⟨ga,i*3,none⟩=some (.int .i64 un)/\x.cell? ⟨ga,i*3+1,none⟩=some (.slice ua UW uc)/\x.cell? ⟨w.heap.size,0,none⟩=some (.int .i64 n)/\x.cell? ⟨w.heap.size,1,none⟩=some (.slice ta W tc)):=fun x u=>⟨u.cell0 d3,u.cell0 x0,u.cell0 x1,u.cell0 y0,u.cell0 y1⟩
    go_wp2_with fail
    go_region_held3 (fun w'=>w'.cell? ⟨m,3,none⟩=some (.slice (some ⟨ga,0,none⟩) M.held.length fc)/\w'.cell? ⟨ga,i*3,none⟩=some (.int .i64 un)/\w'.cell? ⟨ga,i*3+1,none⟩=some (.slice ua UW uc)/\w'.cell? ⟨w.heap.size,0,none⟩=some (.int .i64 n)/\w'.cell? ⟨w.heap.size,1,none⟩=some (.slice ta W tc)) (first | exact HX2.out _ (Upd.refl _ _).drew | exact HX2.out _ HS2.out) (first | (go_at_call 57;refine HS1.out.mono ?_;rintro e w5 ⟨rfl,hu⟩;have HS2:=Lib.hid hu.of_drew;clear hu))
    have k2:=HS2.out.cell0 x2;have k3:=HS2.out.cell0 d3;have g2:w5.frozen? ⟨ga,i*3+2,none⟩=false:=(HS2.out.frozen (World.block_lt_of_cell? _ _ x2) (by simp)).trans fz2;have HU5:=Lib.hid (HNN.out.2.2.trans HS2.out);have hw1:IntKind.i64.wrap ((k:Int)+1)=(k:Int)+1:=IntWalk.i64_in _ (by omega);clear HS1 HX2 x0 x1 x2 y0 y1 d3 fz2
    by_cases he:q=t
    ·rw [decide_eq_true he]
     have HH:Hid (M.holds t=k):=by show _=k;exact holdL_at HNN.out.1 he HNN.out.2.1
     have HIN:Hid (incL M.held t=M.held.set i (q,k+1)):=by show _=_;exact incL_at HNN.out.1 he HNN.out.2.1
     clear he
     by_cases hf:65535<=k
     ·have hfd:decide ((65535:Int)<=(k:Int))=true:=by simp;omega
      have HX:Hid (M.hold1E t=8/\M.hold1 t=M):=⟨by unfold MV.hold1E;rw [if_neg (by rw [HC.out];simp),HH.out,if_pos hf],by unfold MV.hold1;rw [if_neg (by rw [HC.out];simp),HH.out,if_pos hf]⟩;clear hf;go_wp2_with fail;go_ret;exact ⟨by rw [HX.out.1];rfl,by rw [HX.out.2];exact ModE.same HM.out (HU.out.trans HU5.out)⟩
     ·have hfd:decide ((65535:Int)<=(k:Int))=false:=by simp;omega
      have HX:Hid (M.hold1E t=0/\M.hold1 t={ M with held:=M.held.set i (q,k+1) }):=⟨by unfold MV.hold1E;rw [if_neg (by rw [HC.out];simp),HH.out,if_neg hf],by unfold MV.hold1;rw [if_neg (by rw [HC.out];simp),HH.out,if_neg hf,HIN.out]⟩;have HE:=Lib.hid (ModE.setCount (k:=k+1) HM.out (HU.out.trans HU5.out) HFV.out HNN.out.1);clear hf;go_wp2_with fail;go_ret;exact ⟨by rw [HX.out.1];rfl,by rw [HX.out.2];exact HE.out⟩
    ·rw [decide_eq_false he]
     have HE:Hid (∀ h,h∈M.held.take (i+1)->h.1≠t):=fun h hh=>by
      rw [List.take_add_one,HNN.out.1] at hh
      rcases List.mem_append.1 hh with hh | hh
      ·exact HNN.out.2.1 h hh
      ·simp at hh;subst hh;exact he
     clear he k2 k3 g2;go_wp2_with fail
     go_roundg (M.held.length-(i+1))
     case measure=>omega
     case rel=>exact ⟨i+1,rfl,by omega,by simp,HE.out,HU5.out⟩
   ·obtain rfl:i=M.held.length:=by omega
    have hil:¬ ((M.held.length:Int)<(M.held.length:Int)):=by omega
    rw [List.take_length] at hno
    have HX:Hid (M.hold1E t=0/\M.hold1 t={ M with held:=M.held++[(t,1)] }):=by
     have h0:M.holds t=0:=holdL_no hno;exact ⟨by unfold MV.hold1E;rw [if_neg (by rw [HC.out];simp),h0,if_neg (by omega)],by unfold MV.hold1;rw [if_neg (by rw [HC.out];simp),h0,if_neg (by omega),incL_no hno]⟩
    obtain ⟨y0,y1⟩:=HB.out _ (HUB.out.trans hU);obtain ⟨xs,hrow⟩:=(HL.out.keep hUw (by simp) (by simp)).row;have HROW:=Lib.hid hrow;have HUW:=Lib.hid hUw;have hbm:=hUw.block m (heap_lt HM.out.blk) (by simp);rw [HM.out.blk] at hbm;have hlm:=heap_lt hbm;have fz:=frozen_at 3 hbm
    have HC2:Hid (∀ u,u∈[Value.int .i64 n,Value.slice ta W tc,Value.int .i64 1]->u.oneCell'=true):=by
     intro u hu;simp at hu;rcases hu with rfl | rfl | rfl <;> rfl
    have HN':Hid (∀ (j:Nat) u,[Value.int .i64 n,Value.slice ta W tc,Value.int .i64 1][j]?=some u->(wr.alloc (.cells #[Value.int .i64 n,Value.slice ta W tc,Value.int .i64 1] 264 (0,0))).cell? ((⟨wr.heap.size,0,none⟩ : Addr).add j)=some u):=World.news_of_block (heap_alloc_new wr _)
    have HK:Hid (∀ w2:World,(wr.alloc (.cells #[Value.int .i64 n,Value.slice ta W tc,Value.int .i64 1] 264 (0,0))).grownBy w2 (Value.slice fa M.held.length fc).ownBlock->w2.cell? ⟨m,3,none⟩=some (.slice fa M.held.length fc)/\w2.frozen? ⟨m,3,none⟩=false):=fun w2 hg=>by
     have hmt:some m≠(Value.slice fa M.held.length fc).ownBlock:=fun e=>by
      obtain ⟨c1,f1,e1⟩:=row_type HROW.out e.symm;rw [hbm] at e1
      injection e1 with e1
      injection e1 with _ e1 _
      exact absurd e1 (by decide)
     have h2:w2.heap[m]?=_:=(hg.block m (by rw [World.size_alloc];omega) hmt).trans ((Below.heap_alloc _ _ _ hlm).trans hbm);exact ⟨by rw [<- HFV.out];exact cell_at h2 rfl,frozen_at 3 h2⟩
    clear hno hU hUw hrow hbm;go_wp2_with fail
    go_region_law (refine step_append_lies _ rfl (.tmp 51) (.tmp 54) 51 rfl 0 264 ti _ 3 40 Tryz.underlying51 HI.out.1 HI.out.2.1 HI.out.2.2.1 HI.out.2.2.2 (by rfl) (by decide) _ M.held.length xs rfl (row_drew (row_drew (HROW.out.alloc _))) ⟨wr.heap.size,0,none⟩ 1 1 [.int .i64 n,.slice ta W tc,.int .i64 1] rfl rfl HN'.out HC2.out (by omega) (by unfold maxLen;omega) (by omega) (by omega) _ rfl ?_;intro g5 cap w5 hown hgr hat hlt5;have hgr':(wr.alloc (.cells #[Value.int .i64 n,Value.slice ta W tc,Value.int .i64 1] 264 (0,0))).grownBy w5 (Value.slice fa M.held.length fc).ownBlock:=⟨hgr.os,hgr.tape,hgr.output,hgr.size,hgr.block⟩;have hat':(Value.slice fa M.held.length fc).ownBlock=some g5\/g5=wr.heap.size+1:=(hat.imp id (fun e=>(by first | (rw [e];done) | (rw [e];show (wr.alloc _).heap.size=_;rw [World.size_alloc]))));obtain ⟨k1,k2⟩:=HK.out w5 hgr';have HX5:=Lib.hid (And.intro hown (And.intro hgr' hat'));clear hown hgr hat hgr' hat')
    all_goals (
     have HE:=Lib.hid (ModE.pushHeld (k:=1) HM.out HUW.out HFV.out HT.out HROW.out HX5.out.2.1 HX5.out.2.2 (by rw [HN.out.2];exact HX5.out.1));go_wp2_with fail;go_ret;refine ⟨by rw [HX.out.1];rfl,?_⟩;rw [HX.out.2];obtain ⟨p',e1,e2,e3⟩:=HE.out.ex
     first | exact ⟨p',e1,e2,e3⟩ | exact ⟨p',e1.keep0 (Upd.refl _ _).drew,e2.drew,e3⟩)
def MV.new (n c:Nat):MV:=⟨n,c,List.range n,[],[]⟩
structure NewM (n c:Nat) (w:World) (e:Ending) (w':World):Prop where
 ex:∃ (m:Nat) (p:MPtr),e=.returned (.pointer (some ⟨m,0,none⟩))/\w.heap.size<=m/\ModIn w' m (MV.new n c) p (p.all m)/\Upd [] w w'/\Sub [] w (p.all m)
theorem newmodel_spec (n c:Nat) (w:World) (hn:n<=64) (_hc:c<=1048576) :
  Calls Tryz.prog 60 #[.int .i64 n,.int .i64 c] w fun e w'=>NewM n c w e w':=by
 obtain ⟨ti,hi2,hz2,hs2,hb2⟩:=info_parts Tryz.infoIntM;have HI:=Lib.hid (And.intro hi2 (And.intro hz2 (And.intro hs2 hb2)));have hbx:=heap_alloc_new w (.cells #[.int .i64 n,.int .i64 c,.slice none 0 0,.slice none 0 0,.slice none 0 0] 53 (0,0));have HBX:=Lib.hid hbx;have HU0:=Lib.hid ((Upd.refl [] w).alloc (.cells #[.int .i64 n,.int .i64 c,.slice none 0 0,.slice none 0 0,.slice none 0 0] 53 (0,0)));clear hi2 hz2 hs2 hb2 hbx
 go_enter Tryz.func60,Tryz.ntmps60
 go_wp2_with fail
 go_loopg [6] n (fun g s6 wr=>∃ (i:Nat) (ov:Value),n-i=g/\i<=n/\s6=.int .i64 i/\wr.heap[w.heap.size]?=some (.cells #[.int .i64 n,.int .i64 c,ov,.slice none 0 0,.slice none 0 0] 53 (0,0))/\wr.ownsRow w.heap.size 3 1 ov i (flatN (List.range i))/\Upd [] w wr)
 case atStart=>exact ⟨0,.slice none 0 0,by omega,by omega,rfl,HBX.out,World.ownsRow_nil _ _ _ _,HU0.out⟩
 case round =>
  obtain ⟨i,ov,rfl,hi,rfl,hB,hR,hU⟩:=hrel
  by_cases hlt:i<n
  ·have hil:(i:Int)<(n:Int):=by omega
   have c2:wr.cell? ⟨w.heap.size,2,none⟩=some ov:=cell_at hB rfl
   have hov:ov.ownBlock≠some w.heap.size:=fun e=>by
    obtain ⟨c1,f1,e1⟩:=row_type hR e;rw [hB] at e1
    injection e1 with e1
    injection e1 with _ e1 _
    exact absurd e1 (by decide)
   have HB:=Lib.hid hB;have HR:=Lib.hid (And.intro hR (And.intro hU hov));have hbl:=heap_lt hB
   have HC2:Hid (∀ u,u∈[Value.int .i64 i]->u.oneCell'=true):=by intro u hu;simp at hu;subst hu;rfl
   clear hB hR hU hov
   go_wp2_with (at_builtin;go_must (refine wpList_append_lies _ rfl (.tmp 20) (.tmp 22) 23 rfl w.heap.size 3 ti _ 1 8 Tryz.underlying23 HI.out.1 HI.out.2.1 HI.out.2.2.1 HI.out.2.2.2 (by rfl) (by decide) _ i (flatN (List.range i)) rfl (HR.out.1.alloc _) ⟨wr.heap.size,0,none⟩ 1 1 [.int .i64 i] rfl rfl ?c1 HC2.out (by omega) (by unfold maxLen;omega) (by omega) (by rw [World.size_alloc];omega) _ rfl ?_))
   case c1=>exact World.news_of_block (heap_alloc_new wr (.cells #[.int .i64 i] 3 (0,0)))
   intro g5 cap w5 hown hgr hat hlt5
   have hb5:w5.heap[w.heap.size]?=some (.cells #[.int .i64 n,.int .i64 c,ov,.slice none 0 0,.slice none 0 0] 53 (0,0)):=by
    rw [hgr.block w.heap.size (by rw [World.size_alloc];omega) (fun e=>HR.out.2.2 e.symm),Below.heap_alloc _ _ _ hbl];exact HB.out
   have fz:w5.frozen? ⟨w.heap.size,2,none⟩=false:=frozen_at 2 hb5;have k2:w5.cell? ⟨w.heap.size,2,none⟩=some ov:=cell_at hb5 rfl;have hb7:=heap_set_eq (j:=2) hb5 (.slice (some ⟨g5,0,none⟩) (i+1) cap)
   have hg5:g5≠w.heap.size:=fun e=>by
    subst e;obtain ⟨c1,f1,e1⟩:=row_type hown rfl;rw [hb5] at e1
    injection e1 with e1
    injection e1 with _ e1 _
    exact absurd e1 (by decide)
   have HE:Hid ((w5.setCell ⟨w.heap.size,2,none⟩ (.slice (some ⟨g5,0,none⟩) (i+1) cap)).heap[w.heap.size]?=some (.cells #[.int .i64 n,.int .i64 c,.slice (some ⟨g5,0,none⟩) (i+1) cap,.slice none 0 0,.slice none 0 0] 53 (0,0)) /\
     (w5.setCell ⟨w.heap.size,2,none⟩ (.slice (some ⟨g5,0,none⟩) (i+1) cap)).ownsRow w.heap.size 3 1 (.slice (some ⟨g5,0,none⟩) (i+1) cap) (i+1) (flatN (List.range (i+1))) /\
     Upd [] w (w5.setCell ⟨w.heap.size,2,none⟩ (.slice (some ⟨g5,0,none⟩) (i+1) cap))):=by
    refine ⟨hb7,?_,?_⟩
    ·have e:flatN (List.range (i+1))=flatN (List.range i)++[.int .i64 i]:=by simp [flatN,List.range_succ]
     rw [e];exact row_ne hown (by simp only [Value.ownBlock,ne_eq,Option.some.injEq];exact fun e=>hg5 e.symm) _
    ·exact ((HR.out.2.1.alloc (.cells #[.int .i64 i] 3 (0,0))).grown hgr fun k hk=>.inr (HR.out.1.lt k hk).1).setCell (p:=⟨w.heap.size,2,none⟩) (.inr (Nat.le_refl _)) _
   clear hown hgr hat hlt5 hb5 hb7 hg5;go_wp2_with fail
   go_roundg (n-(i+1))
   case measure=>omega
   case rel=>exact ⟨i+1,_,rfl,by omega,by simp,HE.out.1,HE.out.2.1,HE.out.2.2⟩
  ·obtain rfl:i=n:=by omega
   have hil:¬ ((i:Int)<(i:Int)):=by omega
   have HE:Hid (NewM i c w (.returned (.pointer (some ⟨w.heap.size,0,none⟩))) wr):=by
    refine ⟨w.heap.size,⟨ov,.slice none 0 0,.slice none 0 0⟩,rfl,Nat.le_refl _,⟨hB,?_,⟨[],rfl,World.ownsRow_nil _ _ _ _,fun j h d hj=>by simp [MV.new] at hj⟩,World.ownsRow_nil _ _ _ _,fun k _ hk=>by simp [Value.ownBlock] at hk,fun k hk=>hk⟩,hU,fun k hk=>.inr ?_⟩
    ·show wr.ownsRow 0 _ 1 ov (List.range i).length (flatN (List.range i))
     rw [List.length_range];exact row_base hR (Nat.zero_le _)
    ·rcases MPtr.mem.1 hk with rfl | h | h | h
     ·exact Nat.le_refl _
     ·exact (hR.lt k h).1
     ·simp [Value.ownBlock] at h
     ·simp [Value.ownBlock] at h
   clear hB hR hU;go_wp2_with fail;go_ret;exact HE.out
structure ChildQ (t:TV) (v:Nat) (w:World) (e:Ending) (w':World):Prop where
 ex:∃ c1 c2:Value,e=.returned (.tuple #[tabV (cofT t v false) c1,tabV (cofT t v true) c2])/\TNew w w' c1 (cofT t v false)/\TNew w w' c2 (cofT t v true)/\Upd [] w w'
theorem children_spec (m:Nat) (M:MV) (p:MPtr) (Z:List Nat) (c:Value) (t:TV) (v:Nat) (w:World) (h:ModIn w m M p Z) (hZ:∀ k,k∈Z->k<w.heap.size) (hf:M.Fit) (ht:TIn w Z c t) (htn:t.n=M.n) (hv:M.top t=some v) :
  Calls Tryz.prog 222 #[.pointer (some ⟨m,0,none⟩),tabV t c] w fun e w'=>ChildQ t v w e w':=by
 obtain ⟨ta,tc,rfl,_⟩:=row_nil_len ht.row;have hvn:v<M.n:=hf.on v (List.mem_of_find?_eq_some hv);have hn6:=hf.n6;have HT:=Lib.hid ht
 have HZ:Hid (∀ x:World,Upd [] w x->∀ k,k∈Z->k<x.heap.size):=fun x u k hk=>Nat.lt_of_lt_of_le (hZ k hk) u.size
 have hb:=boxT w (.int .i64 t.n) (.slice ta t.ws.length tc)
 have HTP:Hid (∀ x:World,Upd [] w x->Calls Tryz.prog 221 #[.pointer (some ⟨m,0,none⟩),tabV t (.slice ta t.ws.length tc)] x fun e w'=>e=.returned (.int .i64 (v:Nat))/\Upd [] x w'):=fun x u=>by
  have:=top_spec9 m M p Z _ t x (h.keep0 u) (HZ.out x u) hf (ht.keep0 u) htn
  rw [hv] at this;exact this
 have HCF:Hid (∀ (x:World) (b:Bool),Upd [] w x->Calls Tryz.prog 136 #[tabV t (.slice ta t.ws.length tc),.int .i64 v,.bool b] x fun e w'=>CofQ t v b t.n x e w'):=fun x b u =>
  (tcof_all Z _ t v b x (ht.keep0 u) (by rw [htn];exact hvn)).mono fun e w' h=>.of h rfl
 have HNN:Hid ((cofT t v false).n=t.n/\(cofT t v true).n=t.n):=⟨rfl,rfl⟩;unfold tabV at HTP HCF ⊢;generalize t.ws.length=W at *;generalize t.n=n at *;obtain ⟨b0,b1⟩:=hb;have ZA0:ZBox ((w.alloc (.cells #[.int .i64 n,.slice ta W tc] 122 (0,0))).alloc (.cells #[.int .i64 0,.slice none 0 0] 122 (0,0))) (w.heap.size+1):=zbox_new (Upd.refl _ _) (by rw [World.size_alloc]);have ZB0:ZBox (((w.alloc (.cells #[.int .i64 n,.slice ta W tc] 122 (0,0))).alloc (.cells #[.int .i64 0,.slice none 0 0] 122 (0,0))).alloc (.cells #[.int .i64 0,.slice none 0 0] 122 (0,0))) (w.heap.size+1+1):=zbox_new (Upd.refl _ _) (by rw [World.size_alloc,World.size_alloc]);have HZA:=Lib.hid (And.intro (zbox_keep ((Upd.refl [] _).alloc (.cells #[.int .i64 0,.slice none 0 0] 122 (0,0))) ZA0) ZB0);have HU0:=Lib.hid ((((Upd.refl [] w).alloc (.cells #[.int .i64 n,.slice ta W tc] 122 (0,0))).alloc (.cells #[.int .i64 0,.slice none 0 0] 122 (0,0))).alloc (.cells #[.int .i64 0,.slice none 0 0] 122 (0,0)))
 have HB:Hid (∀ x:World,Upd [] (((w.alloc (.cells #[.int .i64 n,.slice ta W tc] 122 (0,0))).alloc (.cells #[.int .i64 0,.slice none 0 0] 122 (0,0))).alloc (.cells #[.int .i64 0,.slice none 0 0] 122 (0,0))) x->x.cell? ⟨w.heap.size,0,none⟩=some (.int .i64 n)/\x.cell? ⟨w.heap.size,1,none⟩=some (.slice ta W tc)):=fun x u=>boxT_keep ((((Upd.refl [] _).alloc _).alloc _).trans u) ⟨b0,b1⟩
 clear h hZ hf ht hv ZA0 ZB0 htn;obtain ⟨b0,b1⟩:=HB.out _ (Upd.refl _ _)
 go_enter Tryz.func222,Tryz.ntmps222
 go_wp2_with fail;refine (HTP.out _ HU0.out).mono ?_;rintro e w1 ⟨rfl,hu⟩;have HU1:=Lib.hid hu;have ZA:=zbox_keep hu HZA.out.1;have ZB:=zbox_keep hu HZA.out.2;obtain ⟨z0,z1⟩:=HB.out _ hu
 have hd:¬ ((v:Int)<0):=by omega
 clear hu b0 b1 HTP;go_wp2_with fail;have HSZ:Hid (w.heap.size+1+1<w1.heap.size):=ZB.lt
 have HK:Hid (∀ x:World,Upd [w.heap.size+1,w.heap.size+1+1] w1 x->x.cell? ⟨w.heap.size,0,none⟩=some (.int .i64 n)/\x.cell? ⟨w.heap.size,1,none⟩=some (.slice ta W tc)):=fun x u =>
  ⟨(u.cell (World.block_lt_of_cell? _ _ z0) (by simp only [List.mem_cons,List.not_mem_nil,or_false,not_or];omega)).trans z0,(u.cell (World.block_lt_of_cell? _ _ z1) (by simp only [List.mem_cons,List.not_mem_nil,or_false,not_or];omega)).trans z1⟩
 have HUW:=Lib.hid (HU0.out.trans HU1.out)
 go_region_held3 (fun w'=>w'.cell? ⟨w.heap.size,0,none⟩=some (.int .i64 n)/\w'.cell? ⟨w.heap.size,1,none⟩=some (.slice ta W tc)) (exact HK.out _ (by repeat' (first | exact HU4.out.mono (by simp) | exact HU3.out.mono (by simp) | exact Upd.refl _ _ | refine Upd.setCell ?_ (Or.inl (by simp)) _ | refine Upd.drew ?_))) (first | (go_at_call_of 136 (Value.bool false);refine (HCF.out _ false HUW.out.drew).mono ?_;rintro e w3 hE;obtain ⟨fA,fM,fC,rfl,hTf,huf⟩:=hE.ex;have HU3:=Lib.hid huf.of_drew;have HTF:=Lib.hid (And.intro hTf huf);obtain ⟨ya0,ya1,ya2,ya3,ya4⟩:=zbox_keep huf.of_drew ZA;obtain ⟨yb0,yb1,yb2,yb3,yb4⟩:=zbox_keep huf.of_drew ZB;clear hE hTf huf) | (go_at_call_of 136 (Value.bool true);refine (HCF.out _ true (HUW.out.trans HU3.out)).mono ?_;rintro e w4 hE;obtain ⟨tA,tM,tC,rfl,hTt,hut⟩:=hE.ex;have HU4:=Lib.hid (HU3.out.trans hut);have HTT:=Lib.hid (And.intro hTt hut);obtain ⟨xa0,xa1,xa2,xa3,xa4⟩:=zbox_keep hut ⟨ya0,ya1,ya2,ya3,ya4⟩;obtain ⟨xb0,xb1,xb2,xb3,xb4⟩:=zbox_keep hut ⟨yb0,yb1,yb2,yb3,yb4⟩;clear hE hTt hut ya0 ya1 ya2 ya3 ya4 yb0 yb1 yb2 yb3 yb4))
 all_goals (
  have HQ:=Lib.hid (giv_ss (n:=n) (fa:=fA) (fm:=fM) (fc:=fC) (ta:=tA) (tm:=tM) (tc:=tC) (A:=w.heap.size+1) (B:=w.heap.size+1+1) ⟨xa0,xa1,xa2,xa3,xa4⟩ ⟨xb0,xb1,xb2,xb3,xb4⟩ (by omega))
  have HG:=Lib.hid (giv_leaf (w:=w) HTF.out.1 HTT.out.1 HTT.out.2 (HUW.out.trans HU4.out) HQ.out (by
   have q1:=HTF.out.2.size;have q2:=HTT.out.2.size;have q3:=HSZ.out
   simp only [sizeDrew] at q1 ⊢
   exact ⟨by omega,by omega,by omega,by omega,by omega,by omega,by omega,by omega⟩))
  go_wp2_with fail;obtain ⟨A',B',fa,fm,fc,ta',tm,tc',e1,e2,hA,hB,a0,a1,b0,b1,hta,htb,hu⟩:=HG.out.ex
  simp only [Value.pointer.injEq,Option.some.injEq,Addr.mk.injEq,and_true] at e1 e2
  subst e1 e2;refine bodyPost_ret (v:=.tuple #[.agg #[.int .i64 n,.slice fa fm fc],.agg #[.int .i64 n,.slice ta' tm tc']]) (by simp [results,Tryz.results222,go_sem,a0,a1,b0,b1]) rfl ?_
  exact ⟨_,_,by unfold tabV;rw [HNN.out.1,HNN.out.2],hta,htb,hu⟩)
end Go.Proofs.YtfkopmhpppeheaaGreat
