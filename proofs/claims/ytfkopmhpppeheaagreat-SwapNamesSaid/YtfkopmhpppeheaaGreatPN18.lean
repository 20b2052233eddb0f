import Derived.Test.YtfkopmhpppeheaaGreatPN17
set_option maxRecDepth 100000
set_option maxHeartbeats 3200000
namespace Go.Proofs.YtfkopmhpppeheaaGreat
open Go.RowKit Go.Maps Go.ChangeMaps Go.WideShapes
theorem Tryz.UE:(Tryz.prog.info? 264).map (fun i=>(i.zero,i.size,i.bytes))=some (some (.agg #[.int .i64 0,.slice none 0 0,.int .i64 0]),3,40):=by kernel_rfl
structure ji (m:Nat) (p:bG) (Z:List Nat) (M':MV) (w w':World):Prop where
 ex:∃ p',fH w' m M' p' (Z++p'.all m)/\af (p.all m) w w'/\Sub (p.all m) w (p'.all m)
theorem ji.same {m:Nat} {M:MV} {p:bG} {Z:List Nat} {w w':World} (h:fH w m M p Z) (u:af [] w w'):ji m p Z M w w' :=
 ⟨p,(h.keep0 u).apart (fun k hk=>.inl (by rcases List.mem_append.1 hk with hk | hk;exact hk;exact h.sz k hk)) (fun k hk=>List.mem_append.2 (.inr hk)),u.mono (by simp),Sub.refl _ _⟩
def MV.gy (M:MV) (l:Int):Int:=if l<0\/(M.n:Int)-2<l then 1 else if M.c<2+M.U l.toNat then 9 else 0
def MV.gQ (M:MV) (l:Int):MV:=if M.gy l=0 then { M with order:=bM M.order l.toNat,trail:=M.trail++[l.toNat] } else M
theorem MV.akd {M:MV} (h:M.Fit) (l:Nat):M.U l<=270336000:=by
 have h1:=iw (M.lev.flatten++(iJ (bz M.tabs) (bM M.order l)).flatten);rw [List.length_append] at h1;have h2:=h.OY;have h3:=h.Jz l
 unfold MV.U;omega
structure afj (m:Nat) (M:MV) (p:bG) (Z:List Nat) (l:Int) (w:World) (e:Ending) (w':World):Prop where
 ex:e=.returned (.int .i64 (M.gy l))/\ji m p Z (M.gQ l) w w'
theorem MZ (m:Nat) (M:MV) (p:bG) (Z:List Nat) (l:Int) (w:World) (h:fH w m M p Z) (hZ:∀ k,k∈Z->k<w.heap.size) (hf:M.Fit) (ho:M.order.length=M.n) (ht:M.trail.length<=1000000) :
  Calls Tryz.prog 64 #[.pointer (some ⟨m,0,none⟩),.int .i64 l] w fun e w'=>afj m M p Z l w e w':=by
 obtain ⟨ti,eU,fE,dR,fU⟩:=info_parts Tryz.xB;have HI:=Lib.hid (And.intro eU (And.intro fE (And.intro dR fU)));obtain ⟨oa,oc,sH,_⟩:=aj h.os;obtain ⟨ta,tc,Ym,_⟩:=aj h.ts;obtain ⟨c0,c1,c2,c3,c4⟩:=h.cells;rw [sH] at c2;rw [Ym] at c4;have zG:=h.os;rw [sH] at zG;have Yn:=h.ts;rw [Ym] at Yn;have HOS:=Lib.hid zG;have HTS:=Lib.hid Yn;have HM:=Lib.hid h;have HV:=Lib.hid (And.intro sH Ym)
 have HZ:Hid (∀ x:World,af [] w x->∀ k,k∈Z->k<x.heap.size):=fun x u k hk=>Nat.lt_of_lt_of_le (hZ k hk) u.size
 have HF:=Lib.hid hf;have hn6:=hf.n6;have ZZ:=hf.cb;have HO:=Lib.hid ho;clear h hZ hf sH Ym zG Yn eU fE dR fU c3
 by_cases yu:l<0
 ·have hd0:decide (l<0)=true:=by simpa using yu
  have HX:Hid (M.gy l=1):=by show _=_;unfold MV.gy;rw [if_pos (.inl yu)]
  clear ho
  go_enter Tryz.func64,Tryz.ntmps64
  go_wp2_with fail;go_ret;refine ⟨by rw [HX.out];rfl,?_⟩;rw [MV.gQ,HX.out,if_neg (by decide)];exact ji.same HM.out (af.refl _ _)
 have hd0:decide (l<0)=false:=by simpa using yu
 have mr:IntKind.i64.wrap ((M.n:Int)-2)=(M.n:Int)-2:=IntWalk.i64_in _ (by omega)
 by_cases uG:(M.n:Int)-2<l
 ·have AY:decide ((M.n:Int)-2<l)=true:=by simpa using uG
  have HX:Hid (M.gy l=1):=by show _=_;unfold MV.gy;rw [if_pos (.inr uG)]
  clear ho
  go_enter Tryz.func64,Tryz.ntmps64
  go_wp2_with fail;go_ret;refine ⟨by rw [HX.out];rfl,?_⟩;rw [MV.gQ,HX.out,if_neg (by decide)];exact ji.same HM.out (af.refl _ _)
 have AY:decide ((M.n:Int)-2<l)=false:=by simpa using uG
 obtain ⟨j,rfl⟩ : ∃ j:Nat,l=(j:Int):=⟨l.toNat,by omega⟩
 have hj:j+1<M.order.length:=by omega
 have hU:=MV.akd HF.out j
 have HUC:Hid (∀ x:World,af [] w x->Calls Tryz.prog 72 #[.pointer (some ⟨m,0,none⟩),.int .i64 j] x fun e w'=>e=.returned (.int .i64 (M.U j:Nat))/\af [] x w'):=fun x u=>ab3 m M p Z j x (HM.out.keep0 u) (HZ.out x u) HF.out hj
 have HEE:Hid (M.gy j=if M.c<2+M.U j then 9 else 0):=by show _=_;unfold MV.gy;rw [if_neg (by omega),Int.toNat_natCast]
 generalize M.U j=U at *;have gV:IntKind.i64.wrap (2+(U:Int))=2+(U:Int):=IntWalk.i64_in _ (by omega)
 by_cases hc:M.c<2+U
 ·have hdc:decide ((M.c:Int)<2+(U:Int))=true:=by simp;omega
  have HX:Hid (M.gy j=9):=by show _=_;rw [HEE.out,if_pos hc]
  clear hc ho
  go_enter Tryz.func64,Tryz.ntmps64
  go_wp2_with fail
  go_region_held3 (fun w'=>w'.cell? ⟨m,1,none⟩=some (.int .i64 M.c)) (first | exact c1 | exact HS.out.cell0 c1) (first | (go_at_call 72;refine (HUC.out _ (af.refl _ _).drew).mono ?_;rintro e w4 ⟨rfl,hu⟩;have HS:=Lib.hid hu.jf;clear hu))
  go_wp2_with fail;go_ret;refine ⟨by rw [HX.out];rfl,?_⟩;rw [MV.gQ,HX.out,if_neg (by decide)];exact ji.same HM.out HS.out
 ·have hdc:decide ((M.c:Int)<2+(U:Int))=false:=by simp;omega
  have HX:Hid (M.gy j=0):=by show _=_;rw [HEE.out,if_neg hc]
  clear hc ho
  go_enter Tryz.func64,Tryz.ntmps64
  go_wp2_with fail
  go_region_held3 (fun w'=>w'.cell? ⟨m,1,none⟩=some (.int .i64 M.c)) (first | exact c1 | exact HS.out.cell0 c1) (first | (go_at_call 72;refine (HUC.out _ (af.refl _ _).drew).mono ?_;rintro e w4 ⟨rfl,hu⟩;have HS:=Lib.hid hu.jf;clear hu))
  have d2:=HS.out.cell0 c2;have d4:=HS.out.cell0 c4;have SH:=Lib.hid (zH 0 _ M.order j w4 (ai HOS.out fun k hk=>HS.out.block k (HOS.out.lt k hk).2 (by simp)) hj (by have:=HF.out.ol;omega));clear hdc gV hd0 AY mr c0 c1 c2 c4;go_wp2_with fail;refine SH.out.mono ?_;rintro e w5 hE;obtain ⟨tg,Yo,rfl,hN,hu⟩:=hE.ex;have HN:=Lib.hid (And.intro hN hu);have qM:=(HS.out.trans hu).block m (ah HM.out.blk) (by simp);rw [HM.out.blk] at qM;have fz2:w5.frozen? ⟨m,2,none⟩=false:=ax 2 qM;have e2:=hu.cell0 d2;have e4:=hu.cell0 d4;have fU:=aB (j:=2) qM (.slice (some ⟨tg,0,none⟩) M.order.length Yo);have fz4:=ax 4 fU;have k4:(w5.setCell ⟨m,2,none⟩ (.slice (some ⟨tg,0,none⟩) M.order.length Yo)).cell? ⟨m,4,none⟩=some (.slice ta M.trail.length tc):=ae fU (by rw [<- HV.out.2];rfl);have LZ:=Lib.hid (And.intro fU (HS.out.trans hu))
  have hmt:∀ k,(Value.slice ta M.trail.length tc).ownBlock=some k->k≠m:=fun k hk e=>by
   subst e;obtain ⟨c1,f1,e1⟩:=bT HTS.out hk;have e2:=HM.out.blk;rw [e1] at e2
   injection e2 with e2
   injection e2 with _ e2 _
   exact absurd e2 (by decide)
  have afk:w5.ownsRow 0 3 1 (.slice ta M.trail.length tc) M.trail.length (aQ M.trail):=ai HTS.out fun k hk=>(HS.out.trans hu).block k (HTS.out.lt k hk).2 (by simp)
  have HTR:Hid ((w5.setCell ⟨m,2,none⟩ (.slice (some ⟨tg,0,none⟩) M.order.length Yo)).ownsRow 0 3 1 (.slice ta M.trail.length tc) M.trail.length (aQ M.trail)):=bf afk (fun e=>hmt m e.symm rfl) _
  have mg:Hid (∀ u,u∈[Value.int .i64 j]->u.oneCell'=true):=by intro u hu;simp at hu;subst hu;rfl
  have HMT:=Lib.hid hmt;clear hE hN hu d2 d4 qM fU SH afk hmt
  go_wp2_with (at_builtin;go_must (refine wpList_append_lies _ rfl (.tmp 40) (.tmp 42) 23 rfl 0 3 ti _ 1 8 Tryz.underlying23 HI.out.1 HI.out.2.1 HI.out.2.2.1 HI.out.2.2.2 (by rfl) (by decide) _ M.trail.length (aQ M.trail) rfl (HTR.out.alloc _) ⟨w5.heap.size,0,none⟩ 1 1 [.int .i64 j] rfl rfl ?c1 mg.out (by omega) (by unfold maxLen;omega) (by omega) (by omega) _ rfl ?_))
  case c1=>exact World.news_of_block (by
   have:=heap_alloc_new (w5.setCell ⟨m,2,none⟩ (.slice (some ⟨tg,0,none⟩) M.order.length Yo)) (.cells #[.int .i64 j] 3 (0,0))
   rw [World.size_setCell] at this;exact this)
  intro g6 cap w6 aK dh bI Yp
  have QF:w6.heap[m]?=some (.cells #[.int .i64 M.n,.int .i64 M.c,.slice (some ⟨tg,0,none⟩) M.order.length Yo,p.hv,p.tv] 53 (0,0)):=by
   have hne:some m≠(Value.slice ta M.trail.length tc).ownBlock:=fun e=>HMT.out m e.symm rfl
   rw [dh.block m (by rw [World.size_alloc,World.size_setCell];have:=ah HM.out.blk;have:=LZ.out.2.size;omega) hne,Below.heap_alloc _ _ _ (ah LZ.out.1)];exact LZ.out.1
  have fz6:w6.frozen? ⟨m,4,none⟩=false:=ax 4 QF;have e6:w6.cell? ⟨m,4,none⟩=some p.tv:=ae QF rfl;have Jl:=aB (j:=4) QF (.slice (some ⟨g6,0,none⟩) (M.trail.length+1) cap)
  have HE:Hid (ji m p Z { M with order:=bM M.order j,trail:=M.trail++[j] } w (w6.setCell ⟨m,4,none⟩ (.slice (some ⟨g6,0,none⟩) (M.trail.length+1) cap))):=by
   have hlm:=ah HM.out.blk;have hz5:=LZ.out.2.size;have hz4:=HS.out.size;have htg:=HN.out.1.lt tg rfl
   have SQ:∀ k,k∈m::(Value.slice ta M.trail.length tc).ownBlock.toList->k=m\/(Value.slice ta M.trail.length tc).ownBlock=some k:=fun k hk=>by
    rcases List.mem_cons.1 hk with h | h
    ·exact .inl h
    ·exact .inr (Option.mem_toList.1 h)
   have u6:af (m::(Value.slice ta M.trail.length tc).ownBlock.toList) w (w6.setCell ⟨m,4,none⟩ (.slice (some ⟨g6,0,none⟩) (M.trail.length+1) cap)):=by
    have a1:af (m::(Value.slice ta M.trail.length tc).ownBlock.toList) w w5:=LZ.out.2.mono (by simp);exact ((((a1.setCell (p:=⟨m,2,none⟩) (.inl (by simp)) _).alloc _).grown dh fun k hk=>.inl (by rw [hk];simp))).setCell (p:=⟨m,4,none⟩) (.inl (by simp)) _
   have Yq:∀ k,(Value.slice ta M.trail.length tc).ownBlock=some k->k∈p.all m:=fun k hk=>bG.mem.2 (.inr (.inr (.inr (by rw [HV.out.2];exact hk))))
   have hg6:g6≠m/\tg≠g6/\((Value.slice ta M.trail.length tc).ownBlock=some g6\/w.heap.size<=g6):=by
    rcases bI with e | e
    ·have:=(HTS.out.lt g6 e).2
     exact ⟨HMT.out g6 e,by omega,.inl e⟩
    ·exact ⟨by omega,by omega,.inr (by omega)⟩
   have dG:∀ k,k∈p.all m->k∈Z:=HM.out.sz
   have aC:(w6.setCell ⟨m,4,none⟩ (.slice (some ⟨g6,0,none⟩) (M.trail.length+1) cap)).ownsRow 0 3 1 (.slice (some ⟨tg,0,none⟩) M.order.length Yo) M.order.length (aQ (bM M.order j)):=by
    have r5:=df HN.out.1 (Nat.zero_le _);have r5':=bf r5 (a:=⟨m,2,none⟩) (by simp only [Value.ownBlock,ne_eq,Option.some.injEq];omega) (.slice (some ⟨tg,0,none⟩) M.order.length Yo);refine bf (ai (r5'.alloc (.cells #[.int .i64 j] 3 (0,0))) fun k hk=>?_) (by simp only [Value.ownBlock,ne_eq,Option.some.injEq];omega) _
    simp only [Value.ownBlock,Option.some.injEq] at hk
    subst hk
    refine dh.block tg (by rw [World.size_alloc,World.size_setCell];omega) fun e=>?_
    have:=(HTS.out.lt tg e.symm).2;omega
   refine ⟨⟨.slice (some ⟨tg,0,none⟩) M.order.length Yo,p.hv,.slice (some ⟨g6,0,none⟩) (M.trail.length+1) cap⟩,⟨Jl,by rw [kV];exact aC,?_,?_,?_,fun k hk=>List.mem_append.2 (.inr hk)⟩,u6.mono fun k hk=>?_,fun k hk=>?_⟩
   ·refine (HM.out.hs.apart (Z':=Z++bG.all ⟨.slice (some ⟨tg,0,none⟩) M.order.length Yo,p.hv,.slice (some ⟨g6,0,none⟩) (M.trail.length+1) cap⟩ m) fun k hk=>?_).keep u6 (fun k hk=>?_) fun k hk hm=>?_
    ·rcases List.mem_append.1 hk with hk | hk
     ·exact .inl hk
     ·rcases bG.mem.1 hk with rfl | h | h | h
      ·exact .inl (dG _ (bG.mem.2 (.inl rfl)))
      ·simp [Value.ownBlock] at h;subst h;right;omega
      ·exact .inl (dG _ (bG.mem.2 (.inr (.inr (.inl h)))))
      ·simp [Value.ownBlock] at h;subst h
       rcases hg6.2.2 with h | h
       ·exact .inl (dG _ (Yq _ h))
       ·exact .inr h
    ·left
     rcases SQ k hk with rfl | h
     ·exact List.mem_append.2 (.inl (dG _ (bG.mem.2 (.inl rfl))))
     ·exact List.mem_append.2 (.inl (dG _ (Yq k h)))
    ·obtain ⟨xs,hr⟩:=HM.out.hs.row
     obtain ⟨c1,f1,e1⟩:=bT hr hk
     rcases SQ k hm with rfl | h
     ·rw [HM.out.blk] at e1
      injection e1 with e1
      injection e1 with _ e1 _
      exact absurd e1 (by decide)
     ·obtain ⟨c2,f2,e2⟩:=bT HTS.out h
      rw [e1] at e2
      injection e2 with e2
      injection e2 with _ e2 _
      exact absurd e2 (by decide)
   ·have e:aQ (M.trail++[j])=aQ M.trail++[.int .i64 j]:=by simp [aQ]
    show (w6.setCell _ _).ownsRow 0 _ 1 _ (M.trail++[j]).length _
    rw [List.length_append,List.length_singleton]
    show (w6.setCell _ _).ownsRow 0 _ 1 _ (M.trail.length+1) (aQ (M.trail++[j]))
    rw [e];exact bf aK (by simp only [Value.ownBlock,ne_eq,Option.some.injEq];exact fun e=>hg6.1 e.symm) _
   ·intro k hk
    simp only [Value.ownBlock,Option.some.injEq] at hk ⊢
    subst hk
    exact fun e=>hg6.2.1 (Option.some.inj e).symm
   ·rcases SQ k hk with rfl | h
    ·exact bG.mem.2 (.inl rfl)
    ·exact Yq k h
   ·rcases bG.mem.1 hk with rfl | h | h | h
    ·exact .inl (bG.mem.2 (.inl rfl))
    ·simp [Value.ownBlock] at h;subst h;right;omega
    ·exact .inl (bG.mem.2 (.inr (.inr (.inl h))))
    ·simp [Value.ownBlock] at h;subst h
     rcases hg6.2.2 with h | h
     ·exact .inl (Yq _ h)
     ·exact .inr h
  clear aK dh bI Yp QF Jl;go_wp2_with fail;go_ret;refine ⟨by rw [HX.out];rfl,?_⟩;rw [MV.gQ,HX.out,if_pos rfl,Int.toNat_natCast];exact HE.out
def pY:List (TV × Nat)->TV->List (TV × Nat)
 | [],t=>[(t,1)]
 | h::H,t=>if h.1=t then (h.1,h.2+1)::H else h::pY H t
def MV.l7 (M:MV) (t:TV):Int:=if t.isC then 0 else if 65535<=M.holds t then 8 else 0
def MV.jB (M:MV) (t:TV):MV:=if t.isC then M else if 65535<=M.holds t then M else { M with held:=pY M.held t }
theorem OZ:∀ {H:List (TV × Nat)} {t:TV} {i:Nat} {u:TV × Nat},H[i]?=some u->u.1=t->(∀ h,h∈H.take i->h.1≠t)->pY H t=H.set i (u.1,u.2+1)
 | [],_,_,_,h,_,_=>by simp at h
 | a::H,t,0,u,h,e,_=>by simp at h;subst h;simp [pY,e]
 | a::H,t,i+1,u,h,e,bK=>by
  have h1:a.1≠t:=bK a (by simp)
  simp only [pY,if_neg h1,List.set_cons_succ]
  rw [OZ (i:=i) (by simpa using h) e fun b hb=>bK b (by simp [hb])]
theorem O0:∀ {H:List (TV × Nat)} {t:TV},(∀ h,h∈H->h.1≠t)->pY H t=H++[(t,1)]
 | [],_,_=>rfl
 | a::H,t,bK=>by
  simp only [pY,if_neg (bK a (by simp)),List.cons_append]
  rw [O0 fun b hb=>bK b (by simp [hb])]
theorem Na {H:List (TV × Nat)} {cs:List Value} (hl:cs.length=H.length) {i:Nat} {u:TV × Nat} (hu:H[i]?=some u) (k:Nat):(oK H cs).set (i*3+2) (.int .i64 k)=oK (H.set i (u.1,k)) cs:=by
 induction H generalizing cs i with
 | nil=>simp at hu
 | cons a L ih =>
  cases cs with
  | nil=>simp at hl
  | cons d cs =>
   have Xn:cs.length=L.length:=by simpa using hl
   have e:oK (a::L) (d::cs)=Value.int .i64 a.1.n::d::.int .i64 a.2::oK L cs:=rfl
   cases i with
   | zero=>simp at hu;subst hu;rw [e];rfl
   | succ i =>
    simp at hu
    have e3:(i+1)*3+2=i*3+2+1+1+1:=by omega
    rw [e,e3,List.set_cons_succ,List.set_cons_succ,List.set_cons_succ,ih Xn hu,List.set_cons_succ];rfl
theorem LC.CE {w:World} {Z:List Nat} {g n c i k:Nat} {H:List (TV × Nat)} {u:TV × Nat} (h:LC w Z (.slice (some ⟨g,0,none⟩) n c) H) (hg:g∈Z) (hu:H[i]?=some u):LC (w.setCell ⟨g,i*3+2,none⟩ (.int .i64 k)) Z (.slice (some ⟨g,0,none⟩) n c) (H.set i (u.1,k)):=by
 obtain ⟨cs,h1,h2,h3⟩:=h.ex;have fF:i<H.length:=(List.getElem?_eq_some_iff.1 hu).1;refine ⟨cs,by rw [List.length_set];exact h1,?_,fun j v d hv hd=>?_⟩
 ·rw [List.length_set,<- Na h1 hu]
  exact dL h2 (by omega) _
 ·have jE:af Z w (w.setCell ⟨g,i*3+2,none⟩ (.int .i64 k)):=(af.refl Z w).setCell (p:=⟨g,i*3+2,none⟩) (.inl hg) _
  by_cases e:j=i
  ·subst e
   rw [List.getElem?_set_self fF] at hv;cases hv
   exact (h3 j u d hu hd).keep jE fun k hk=>.inl hk
  ·rw [List.getElem?_set_ne (Ne.symm e)] at hv
   exact (h3 j v d hv hd).keep jE fun k hk=>.inl hk
theorem ji.CE {m:Nat} {M:MV} {p:bG} {Z:List Nat} {w w':World} {g n c i k:Nat} {u:TV × Nat} (h:fH w m M p Z) (uu:af [] w w') (hv:p.hv=.slice (some ⟨g,0,none⟩) n c) (hu:M.held[i]?=some u) :
  ji m p Z { M with held:=M.held.set i (u.1,k) } w (w'.setCell ⟨g,i*3+2,none⟩ (.int .i64 k)):=by
 have h':=h.keep0 uu;have hg:g∈p.all m:=bG.mem.2 (.inr (.inr (.inl (by rw [hv];rfl))));obtain ⟨xs,hr⟩:=h'.hs.row;obtain ⟨c1,f1,e1⟩:=bT hr (k:=g) (by rw [hv];rfl)
 have hgm:m≠g:=fun e=>by
  subst e;rw [h'.blk] at e1
  injection e1 with e1
  injection e1 with _ e1 _
  exact absurd e1 (by decide)
 have ho:some g≠p.ov.ownBlock:=fun e=>by
  obtain ⟨c2,f2,e2⟩:=bT h'.os e.symm;rw [e1] at e2
  injection e2 with e2
  injection e2 with _ e2 _
  exact absurd e2 (by decide)
 have ht:some g≠p.tv.ownBlock:=fun e=>by
  obtain ⟨c2,f2,e2⟩:=bT h'.ts e.symm;rw [e1] at e2
  injection e2 with e2
  injection e2 with _ e2 _
  exact absurd e2 (by decide)
 have hs:=h'.hs;rw [hv] at hs;refine ⟨p,⟨by rw [aG hgm];exact h'.blk,bf h'.os ho _,?_,bf h'.ts ht _,h'.ne,fun k hk=>List.mem_append.2 (.inr hk)⟩,(uu.mono (by simp)).setCell (p:=⟨g,i*3+2,none⟩) (.inl hg) _,Sub.refl _ _⟩;rw [hv]
 refine (hs.CE (h'.sz g hg) hu).apart fun x hx=>.inl ?_
 rcases List.mem_append.1 hx with hx | hx
 ·exact hx
 ·exact h'.sz x hx
theorem ji.UF {m:Nat} {M:MV} {p:bG} {Z:List Nat} {w w1 w5:World} {a:Option Addr} {n c g5 cap k:Nat} {d:Value} {t:TV} {X:Obj} {xs:List Value} (h:fH w m M p Z) (uu:af [] w w1) (hv:p.hv=.slice a n c) (ht:jG w Z d t)
  (aC:w1.ownsRow 0 264 3 (.slice a n c) M.held.length xs) (dh:(w1.alloc X).grownBy w5 (Value.slice a n c).ownBlock) (bI:(Value.slice a n c).ownBlock=some g5\/g5=w1.heap.size+1)
  (aK:w5.ownsRow 0 264 3 (.slice (some ⟨g5,0,none⟩) (M.held.length+1) cap) (M.held.length+1) (xs++[.int .i64 t.n,d,.int .i64 k])) :
  ji m p Z { M with held:=M.held++[(t,k)] } w (w5.setCell ⟨m,3,none⟩ (.slice (some ⟨g5,0,none⟩) (M.held.length+1) cap)):=by
 have h':=h.keep0 uu;obtain ⟨cs,b1,b2,b3⟩:=h'.hs.ex;rw [hv] at b2;obtain rfl:=AV aC b2 rfl;have hlm:=ah h.blk;have hz:=uu.size
 have Yq:∀ k,(Value.slice a n c).ownBlock=some k->k∈p.all m:=fun k hk=>bG.mem.2 (.inr (.inr (.inl (by rw [hv];exact hk))))
 have hmt:∀ k,(Value.slice a n c).ownBlock=some k->k≠m:=fun k hk e=>by
  subst e;obtain ⟨c1,f1,e1⟩:=bT aC hk;have e2:=h'.blk;rw [e1] at e2
  injection e2 with e2
  injection e2 with _ e2 _
  exact absurd e2 (by decide)
 have hg:g5≠m/\((Value.slice a n c).ownBlock=some g5\/w.heap.size<=g5):=by
  rcases bI with e | e
  ·exact ⟨hmt g5 e,.inl e⟩
  ·exact ⟨by omega,.inr (by omega)⟩
 have SQ:∀ k,k∈m::(Value.slice a n c).ownBlock.toList->k=m\/(Value.slice a n c).ownBlock=some k:=fun k hk=>by
  rcases List.mem_cons.1 hk with h | h
  ·exact .inl h
  ·exact .inr (Option.mem_toList.1 h)
 have u6:af (m::(Value.slice a n c).ownBlock.toList) w (w5.setCell ⟨m,3,none⟩ (.slice (some ⟨g5,0,none⟩) (M.held.length+1) cap)) :=
  ((((uu.mono (by simp)).alloc X).grown dh fun k hk=>.inl (by rw [hk];simp))).setCell (p:=⟨m,3,none⟩) (.inl (by simp)) _
 have Nc:w5.heap[m]?=some (.cells #[.int .i64 M.n,.int .i64 M.c,p.ov,p.hv,p.tv] 53 (0,0)):=by
  rw [dh.block m (by rw [World.size_alloc];omega) (fun e=>hmt m e.symm rfl),Below.heap_alloc _ _ _ (by omega)];exact h'.blk
 have Jl:=aB (j:=3) Nc (.slice (some ⟨g5,0,none⟩) (M.held.length+1) cap)
 have aag:∀ {v:Value} {l:List Nat},w.ownsRow 0 3 1 v l.length (aQ l)->(w5.setCell ⟨m,3,none⟩ (.slice (some ⟨g5,0,none⟩) (M.held.length+1) cap)).ownsRow 0 3 1 v l.length (aQ l):=fun {v l} hr=>ai hr fun k hk=>u6.block k (hr.lt k hk).2 fun hm=>by
  obtain ⟨c1,f1,e1⟩:=bT hr hk
  rcases SQ k hm with rfl | hh
  ·rw [h.blk] at e1
   injection e1 with e1
   injection e1 with _ e1 _
   exact absurd e1 (by decide)
  ·obtain ⟨c2,f2,e2⟩:=bT aC hh
   rw [uu.block k (hr.lt k hk).2 (by simp),e1] at e2
   injection e2 with e2
   injection e2 with _ e2 _
   exact absurd e2 (by decide)
 refine ⟨⟨p.ov,.slice (some ⟨g5,0,none⟩) (M.held.length+1) cap,p.tv⟩,⟨Jl,aag h.os,⟨cs++[d],by simp [b1],?_,fun i u e hu he=>?_⟩,aag h.ts,h.ne,fun k hk=>List.mem_append.2 (.inr hk)⟩,u6.mono fun k hk=>?_,fun k hk=>?_⟩
 ·rw [MQ b1,List.length_append,List.length_singleton]
  exact bf aK (by simp only [Value.ownBlock,ne_eq,Option.some.injEq];exact fun e=>hg.1 e.symm) _
 ·have UG:Sub Z w (Z++bG.all ⟨p.ov,.slice (some ⟨g5,0,none⟩) (M.held.length+1) cap,p.tv⟩ m):=fun k hk=>by
   rcases List.mem_append.1 hk with hk | hk
   ·exact .inl hk
   ·rcases bG.mem.1 hk with rfl | h1 | h1 | h1
    ·exact .inl (h.sz _ (bG.mem.2 (.inl rfl)))
    ·exact .inl (h.sz _ (bG.mem.2 (.inr (.inl h1))))
    ·simp [Value.ownBlock] at h1;subst h1
     rcases hg.2 with h2 | h2
     ·exact .inl (h.sz _ (Yq _ h2))
     ·exact .inr h2
    ·exact .inl (h.sz _ (bG.mem.2 (.inr (.inr (.inr h1)))))
  have hSZ:∀ k,k∈m::(Value.slice a n c).ownBlock.toList->k∈Z++bG.all ⟨p.ov,.slice (some ⟨g5,0,none⟩) (M.held.length+1) cap,p.tv⟩ m\/w.heap.size<=k:=fun k hk=>by
   rcases SQ k hk with rfl | h1
   ·exact .inl (List.mem_append.2 (.inl (h.sz _ (bG.mem.2 (.inl rfl)))))
   ·exact .inl (List.mem_append.2 (.inl (h.sz _ (Yq k h1))))
  by_cases hi:i<M.held.length
  ·rw [List.getElem?_append_left hi] at hu
   rw [List.getElem?_append_left (by omega)] at he;have h9:=b3 i u e hu he;obtain ⟨cs0,d1,d2,d3⟩:=h.hs.ex
   have EC:cs0[i]?=some e:=by
    have e1:=(yM b1 hu he).2.1
    have AZ:w1.ownsRow 0 264 3 (.slice a n c) M.held.length (oK M.held cs0):=by
     rw [hv] at d2
     exact ai d2 fun k hk=>uu.block k (d2.lt k hk).2 (by simp)
    have e2:=AV aC AZ rfl;have e3:cs0[i]?=some (cs0[i]'(by omega)):=List.getElem?_eq_getElem (by omega);have e4:=(yM d1 hu e3).2.1;rw [<- e2,e1] at e4
    rw [e3];exact e4.symm
   exact ((d3 i u e hu EC).apart UG).keep u6 hSZ
  ·rw [List.getElem?_append_right (by omega)] at hu
   rw [List.getElem?_append_right (by omega),b1] at he
   cases e0:i-M.held.length with
   | zero=>rw [e0] at hu he;simp at hu he;subst hu he;exact (ht.apart UG).keep u6 hSZ
   | succ j=>rw [e0] at hu;simp at hu
 ·rcases SQ k hk with rfl | h1
  ·exact bG.mem.2 (.inl rfl)
  ·exact Yq k h1
 ·rcases bG.mem.1 hk with rfl | h1 | h1 | h1
  ·exact .inl (bG.mem.2 (.inl rfl))
  ·exact .inl (bG.mem.2 (.inr (.inl h1)))
  ·simp [Value.ownBlock] at h1;subst h1
   rcases hg.2 with h2 | h2
   ·exact .inl (Yq _ h2)
   ·exact .inr h2
  ·exact .inl (bG.mem.2 (.inr (.inr (.inr h1))))
structure UH (m:Nat) (M:MV) (p:bG) (Z:List Nat) (t:TV) (w:World) (e:Ending) (w':World):Prop where
 ex:e=.returned (.int .i64 (M.l7 t))/\ji m p Z (M.jB t) w w'
theorem Nh (m:Nat) (M:MV) (p:bG) (Z:List Nat) (c:Value) (t:TV) (w:World) (h:fH w m M p Z) (hZ:∀ k,k∈Z->k<w.heap.size) (ht:jG w Z c t) (hl:M.held.length<=4194304) (hm:∀ u,u∈M.held->u.2<=65535) :
  Calls Tryz.prog 139 #[.pointer (some ⟨m,0,none⟩),dI t c] w fun e w'=>UH m M p Z t w e w':=by
 obtain ⟨ti,eU,fE,dR,fU⟩:=info_parts Tryz.UE;have HI:=Lib.hid (And.intro eU (And.intro fE (And.intro dR fU)));obtain ⟨ta,tc,rfl,_⟩:=aj ht.row;obtain ⟨fa,fc,oG,MI⟩:=h.hs.form;obtain ⟨_,_,_,c3,_⟩:=h.cells;rw [oG] at c3;have hs:=h.hs;rw [oG] at hs;have HL:=Lib.hid hs;have HT:=Lib.hid ht;have HM:=Lib.hid h;have Jb:=Lib.hid oG;have HMX:=Lib.hid hm
 have HZ:Hid (∀ x:World,af [] w x->∀ k,k∈Z->k<x.heap.size):=fun x u k hk=>Nat.lt_of_lt_of_le (hZ k hk) u.size
 have jR:=Lib.hid ((af.refl [] w).alloc (.cells #[.int .i64 t.n,.slice ta t.ws.length tc] 122 (0,0)));have hb:=nH w (.int .i64 t.n) (.slice ta t.ws.length tc)
 have BN:Hid (∀ (x:World) (d:Value) (u:TV),af [] w x->jG x Z d u->Calls Tryz.prog 57 #[dI u d,dI t (.slice ta t.ws.length tc)] x fun e w'=>e=.returned (.bool (decide (u=t)))/\af [] x w'):=fun x d u hx hd=>mJ Z d _ u t x hd (ht.keep0 hx)
 have HIC:Hid (∀ x:World,af [] w x->Calls Tryz.prog 188 #[dI t (.slice ta t.ws.length tc)] x fun e w'=>e=.returned (.bool t.isC)/\af [] x w'):=fun x u=>Hy Z _ t x (ht.keep0 u) (HZ.out x u)
 have HWN:Hid (t.ws.length=t.ws.length/\t.n=t.n):=⟨rfl,rfl⟩;unfold dI at BN HIC ⊢;generalize hW:t.ws.length=W at *;generalize hn:t.n=n at *;have HN:=Lib.hid (And.intro hW hn);obtain ⟨b0,b1⟩:=hb
 have HB:Hid (∀ x:World,af [] (w.alloc (.cells #[.int .i64 n,.slice ta W tc] 122 (0,0))) x->x.cell? ⟨w.heap.size,0,none⟩=some (.int .i64 n)/\x.cell? ⟨w.heap.size,1,none⟩=some (.slice ta W tc)):=fun x u=>dw u ⟨b0,b1⟩
 clear h oG hs ht hZ hW hn hm eU fE dR fU
 cases hc:t.isC with
 | true =>
  have HX:Hid (M.l7 t=0/\M.jB t=M):=⟨by unfold MV.l7;rw [if_pos hc],by unfold MV.jB;rw [if_pos hc]⟩;have HC:=Lib.hid hc;clear hc
  go_enter Tryz.func139,Tryz.ntmps139
  go_wp2_with fail;refine (HIC.out _ jR.out).mono ?_;rintro e w1 ⟨rfl,hu⟩;rw [HC.out];have HU:=Lib.hid (jR.out.trans hu);clear hu b0 b1;go_wp2_with fail;go_ret;exact ⟨by rw [HX.out.1];rfl,by rw [HX.out.2];exact ji.same HM.out HU.out⟩
 | false =>
  have HC:=Lib.hid hc;clear hc
  go_enter Tryz.func139,Tryz.ntmps139
  go_wp2_with fail;refine (HIC.out _ jR.out).mono ?_;rintro e w1 ⟨rfl,hu⟩;rw [HC.out];have HU:=Lib.hid (jR.out.trans hu);have HUB:=Lib.hid hu;clear hu b0 b1;go_wp2_with fail
  go_loopg [5] M.held.length (fun g s5 wr=>∃ i:Nat,M.held.length-i=g/\i<=M.held.length/\s5=.int .i64 i/\(∀ h,h∈M.held.take i->h.1≠t)/\af [] w1 wr)
  case atStart=>exact ⟨0,by omega,by omega,rfl,by simp,af.refl _ _⟩
  case round =>
   obtain ⟨i,rfl,hi,rfl,bK,hU⟩:=hrel;have SK:=HU.out.trans hU;have d3:=SK.cell0 c3
   by_cases aW:i<M.held.length
   ·obtain ⟨u,hu⟩ : ∃ u,M.held[i]?=some u:=⟨_,List.getElem?_eq_getElem aW⟩
    obtain ⟨ga,rfl⟩:=MI (by omega);obtain ⟨cu,x0,x1,x2,uQ⟩:=(HL.out.keep SK (by simp) (by simp)).at_ hu;obtain ⟨ua,uc,Qr,_⟩:=aj uQ.row;subst Qr
    have fF:(i:Int)<(M.held.length:Int):=by omega
    obtain ⟨y0,y1⟩:=HB.out _ (HUB.out.trans hU);have Ai:=Lib.hid (BN.out wr.drew _ u.1 SK.drew (uQ.keep0 (af.refl _ _).drew));have A7:=Lib.hid (And.intro hu (And.intro bK hU));have arl:=HMX.out u (List.mem_of_getElem? hu)
    have fz2:wr.frozen? ⟨ga,i*3+2,none⟩=false:=by
     obtain ⟨xs,hr⟩:=(HL.out.keep SK (by simp) (by simp)).row;exact aS hr _
    obtain ⟨q,k⟩:=u
    simp only at *
    generalize q.ws.length=UW at *;generalize q.n=un at *;clear hu uQ bK hU
    have Aj:Hid (∀ x:World,af [] wr x->x.cell? ⟨m,3,none⟩=some (.slice (some ⟨ga,0,none⟩) M.held.length fc)/\x.cell? ⟨ga,i*3,none⟩=some (.int .i64 un)/\x.cell? ⟨ga,i*3+1,none⟩=some (.slice ua UW uc)/\x.cell? ⟨w.heap.size,0,none⟩=some (.int .i64 n)/\x.cell? ⟨w.heap.size,1,none⟩=some (.slice ta W tc)):=fun x u=>⟨u.cell0 d3,u.cell0 x0,u.cell0 x1,u.cell0 y0,u.cell0 y1⟩
    go_wp2_with fail
    go_region_held3 (fun w'=>w'.cell? ⟨m,3,none⟩=some (.slice (some ⟨ga,0,none⟩) M.held.length fc)/\w'.cell? ⟨ga,i*3,none⟩=some (.int .i64 un)/\w'.cell? ⟨ga,i*3+1,none⟩=some (.slice ua UW uc)/\w'.cell? ⟨w.heap.size,0,none⟩=some (.int .i64 n)/\w'.cell? ⟨w.heap.size,1,none⟩=some (.slice ta W tc)) (first | exact Aj.out _ (af.refl _ _).drew | exact Aj.out _ xm.out) (first | (go_at_call 57;refine Ai.out.mono ?_;rintro e w5 ⟨rfl,hu⟩;have xm:=Lib.hid hu.jf;clear hu))
    have k2:=xm.out.cell0 x2;have k3:=xm.out.cell0 d3;have g2:w5.frozen? ⟨ga,i*3+2,none⟩=false:=(xm.out.frozen (World.block_lt_of_cell? _ _ x2) (by simp)).trans fz2;have Jy:=Lib.hid (A7.out.2.2.trans xm.out);have pX:IntKind.i64.wrap ((k:Int)+1)=(k:Int)+1:=IntWalk.i64_in _ (by omega);clear Ai Aj x0 x1 x2 y0 y1 d3 fz2
    by_cases he:q=t
    ·rw [decide_eq_true he]
     have HH:Hid (M.holds t=k):=by show _=k;exact Cf A7.out.1 he A7.out.2.1
     have Hl:Hid (pY M.held t=M.held.set i (q,k+1)):=by show _=_;exact OZ A7.out.1 he A7.out.2.1
     clear he
     by_cases hf:65535<=k
     ·have hfd:decide ((65535:Int)<=(k:Int))=true:=by simp;omega
      have HX:Hid (M.l7 t=8/\M.jB t=M):=⟨by unfold MV.l7;rw [if_neg (by rw [HC.out];simp),HH.out,if_pos hf],by unfold MV.jB;rw [if_neg (by rw [HC.out];simp),HH.out,if_pos hf]⟩;clear hf;go_wp2_with fail;go_ret;exact ⟨by rw [HX.out.1];rfl,by rw [HX.out.2];exact ji.same HM.out (HU.out.trans Jy.out)⟩
     ·have hfd:decide ((65535:Int)<=(k:Int))=false:=by simp;omega
      have HX:Hid (M.l7 t=0/\M.jB t={ M with held:=M.held.set i (q,k+1) }):=⟨by unfold MV.l7;rw [if_neg (by rw [HC.out];simp),HH.out,if_neg hf],by unfold MV.jB;rw [if_neg (by rw [HC.out];simp),HH.out,if_neg hf,Hl.out]⟩;have HE:=Lib.hid (ji.CE (k:=k+1) HM.out (HU.out.trans Jy.out) Jb.out A7.out.1);clear hf;go_wp2_with fail;go_ret;exact ⟨by rw [HX.out.1];rfl,by rw [HX.out.2];exact HE.out⟩
    ·rw [decide_eq_false he]
     have HE:Hid (∀ h,h∈M.held.take (i+1)->h.1≠t):=fun h hh=>by
      rw [List.take_add_one,A7.out.1] at hh
      rcases List.mem_append.1 hh with hh | hh
      ·exact A7.out.2.1 h hh
      ·simp at hh;subst hh;exact he
     clear he k2 k3 g2;go_wp2_with fail
     go_roundg (M.held.length-(i+1))
     case measure=>omega
     case rel=>exact ⟨i+1,rfl,by omega,by simp,HE.out,Jy.out⟩
   ·obtain rfl:i=M.held.length:=by omega
    have fF:¬ ((M.held.length:Int)<(M.held.length:Int)):=by omega
    rw [List.take_length] at bK
    have HX:Hid (M.l7 t=0/\M.jB t={ M with held:=M.held++[(t,1)] }):=by
     have h0:M.holds t=0:=Ci bK;exact ⟨by unfold MV.l7;rw [if_neg (by rw [HC.out];simp),h0,if_neg (by omega)],by unfold MV.jB;rw [if_neg (by rw [HC.out];simp),h0,if_neg (by omega),O0 bK]⟩
    obtain ⟨y0,y1⟩:=HB.out _ (HUB.out.trans hU);obtain ⟨xs,aC⟩:=(HL.out.keep SK (by simp) (by simp)).row;have bF:=Lib.hid aC;have OE:=Lib.hid SK;have yO:=SK.block m (ah HM.out.blk) (by simp);rw [HM.out.blk] at yO;have hlm:=ah yO;have fz:=ax 3 yO
    have mg:Hid (∀ u,u∈[Value.int .i64 n,Value.slice ta W tc,Value.int .i64 1]->u.oneCell'=true):=by
     intro u hu;simp at hu;rcases hu with rfl | rfl | rfl <;> rfl
    have HN':Hid (∀ (j:Nat) u,[Value.int .i64 n,Value.slice ta W tc,Value.int .i64 1][j]?=some u->(wr.alloc (.cells #[Value.int .i64 n,Value.slice ta W tc,Value.int .i64 1] 264 (0,0))).cell? ((⟨wr.heap.size,0,none⟩ : Addr).add j)=some u):=World.news_of_block (heap_alloc_new wr _)
    have HK:Hid (∀ w2:World,(wr.alloc (.cells #[Value.int .i64 n,Value.slice ta W tc,Value.int .i64 1] 264 (0,0))).grownBy w2 (Value.slice fa M.held.length fc).ownBlock->w2.cell? ⟨m,3,none⟩=some (.slice fa M.held.length fc)/\w2.frozen? ⟨m,3,none⟩=false):=fun w2 hg=>by
     have hmt:some m≠(Value.slice fa M.held.length fc).ownBlock:=fun e=>by
      obtain ⟨c1,f1,e1⟩:=bT bF.out e.symm;rw [yO] at e1
      injection e1 with e1
      injection e1 with _ e1 _
      exact absurd e1 (by decide)
     have h2:w2.heap[m]?=_:=(hg.block m (by rw [World.size_alloc];omega) hmt).trans ((Below.heap_alloc _ _ _ hlm).trans yO);exact ⟨by rw [<- Jb.out];exact ae h2 rfl,ax 3 h2⟩
    clear bK hU SK aC yO;go_wp2_with fail
    go_region_law (refine step_append_lies _ rfl (.tmp 51) (.tmp 54) 51 rfl 0 264 ti _ 3 40 Tryz.underlying51 HI.out.1 HI.out.2.1 HI.out.2.2.1 HI.out.2.2.2 (by rfl) (by decide) _ M.held.length xs rfl (lN (lN (bF.out.alloc _))) ⟨wr.heap.size,0,none⟩ 1 1 [.int .i64 n,.slice ta W tc,.int .i64 1] rfl rfl HN'.out mg.out (by omega) (by unfold maxLen;omega) (by omega) (by omega) _ rfl ?_;intro g5 cap w5 aK dh bI kF;have ab5:(wr.alloc (.cells #[Value.int .i64 n,Value.slice ta W tc,Value.int .i64 1] 264 (0,0))).grownBy w5 (Value.slice fa M.held.length fc).ownBlock:=⟨dh.os,dh.tape,dh.output,dh.size,dh.block⟩;have xE:(Value.slice fa M.held.length fc).ownBlock=some g5\/g5=wr.heap.size+1:=(bI.imp id (fun e=>(by first | (rw [e];done) | (rw [e];show (wr.alloc _).heap.size=_;rw [World.size_alloc]))));obtain ⟨k1,k2⟩:=HK.out w5 ab5;have Nj:=Lib.hid (And.intro aK (And.intro ab5 xE));clear aK dh bI ab5 xE)
    all_goals (
     have HE:=Lib.hid (ji.UF (k:=1) HM.out OE.out Jb.out HT.out bF.out Nj.out.2.1 Nj.out.2.2 (by rw [HN.out.2];exact Nj.out.1));go_wp2_with fail;go_ret;refine ⟨by rw [HX.out.1];rfl,?_⟩;rw [HX.out.2];obtain ⟨p',e1,e2,e3⟩:=HE.out.ex
     first | exact ⟨p',e1,e2,e3⟩ | exact ⟨p',e1.keep0 (af.refl _ _).drew,e2.drew,e3⟩)
def MV.new (n c:Nat):MV:=⟨n,c,List.range n,[],[]⟩
structure afl (n c:Nat) (w:World) (e:Ending) (w':World):Prop where
 ex:∃ (m:Nat) (p:bG),e=.returned (.pointer (some ⟨m,0,none⟩))/\w.heap.size<=m/\fH w' m (MV.new n c) p (p.all m)/\af [] w w'/\Sub [] w (p.all m)
theorem ED (n c:Nat) (w:World) (hn:n<=64) (_hc:c<=1048576) :
  Calls Tryz.prog 60 #[.int .i64 n,.int .i64 c] w fun e w'=>afl n c w e w':=by
 obtain ⟨ti,eU,fE,dR,fU⟩:=info_parts Tryz.xB;have HI:=Lib.hid (And.intro eU (And.intro fE (And.intro dR fU)));have aY:=heap_alloc_new w (.cells #[.int .i64 n,.int .i64 c,.slice none 0 0,.slice none 0 0,.slice none 0 0] 53 (0,0));have pO:=Lib.hid aY;have jR:=Lib.hid ((af.refl [] w).alloc (.cells #[.int .i64 n,.int .i64 c,.slice none 0 0,.slice none 0 0,.slice none 0 0] 53 (0,0)));clear eU fE dR fU aY
 go_enter Tryz.func60,Tryz.ntmps60
 go_wp2_with fail
 go_loopg [6] n (fun g s6 wr=>∃ (i:Nat) (ov:Value),n-i=g/\i<=n/\s6=.int .i64 i/\wr.heap[w.heap.size]?=some (.cells #[.int .i64 n,.int .i64 c,ov,.slice none 0 0,.slice none 0 0] 53 (0,0))/\wr.ownsRow w.heap.size 3 1 ov i (aQ (List.range i))/\af [] w wr)
 case atStart=>exact ⟨0,.slice none 0 0,by omega,by omega,rfl,pO.out,World.ownsRow_nil _ _ _ _,jR.out⟩
 case round =>
  obtain ⟨i,ov,rfl,hi,rfl,hB,hR,hU⟩:=hrel
  by_cases aW:i<n
  ·have fF:(i:Int)<(n:Int):=by omega
   have c2:wr.cell? ⟨w.heap.size,2,none⟩=some ov:=ae hB rfl
   have sH:ov.ownBlock≠some w.heap.size:=fun e=>by
    obtain ⟨c1,f1,e1⟩:=bT hR e;rw [hB] at e1
    injection e1 with e1
    injection e1 with _ e1 _
    exact absurd e1 (by decide)
   have HB:=Lib.hid hB;have HR:=Lib.hid (And.intro hR (And.intro hU sH));have mO:=ah hB
   have mg:Hid (∀ u,u∈[Value.int .i64 i]->u.oneCell'=true):=by intro u hu;simp at hu;subst hu;rfl
   clear hB hR hU sH
   go_wp2_with (at_builtin;go_must (refine wpList_append_lies _ rfl (.tmp 20) (.tmp 22) 23 rfl w.heap.size 3 ti _ 1 8 Tryz.underlying23 HI.out.1 HI.out.2.1 HI.out.2.2.1 HI.out.2.2.2 (by rfl) (by decide) _ i (aQ (List.range i)) rfl (HR.out.1.alloc _) ⟨wr.heap.size,0,none⟩ 1 1 [.int .i64 i] rfl rfl ?c1 mg.out (by omega) (by unfold maxLen;omega) (by omega) (by rw [World.size_alloc];omega) _ rfl ?_))
   case c1=>exact World.news_of_block (heap_alloc_new wr (.cells #[.int .i64 i] 3 (0,0)))
   intro g5 cap w5 aK dh bI kF
   have Nc:w5.heap[w.heap.size]?=some (.cells #[.int .i64 n,.int .i64 c,ov,.slice none 0 0,.slice none 0 0] 53 (0,0)):=by
    rw [dh.block w.heap.size (by rw [World.size_alloc];omega) (fun e=>HR.out.2.2 e.symm),Below.heap_alloc _ _ _ mO];exact HB.out
   have fz:w5.frozen? ⟨w.heap.size,2,none⟩=false:=ax 2 Nc;have k2:w5.cell? ⟨w.heap.size,2,none⟩=some ov:=ae Nc rfl;have Jl:=aB (j:=2) Nc (.slice (some ⟨g5,0,none⟩) (i+1) cap)
   have hg5:g5≠w.heap.size:=fun e=>by
    subst e;obtain ⟨c1,f1,e1⟩:=bT aK rfl;rw [Nc] at e1
    injection e1 with e1
    injection e1 with _ e1 _
    exact absurd e1 (by decide)
   have HE:Hid ((w5.setCell ⟨w.heap.size,2,none⟩ (.slice (some ⟨g5,0,none⟩) (i+1) cap)).heap[w.heap.size]?=some (.cells #[.int .i64 n,.int .i64 c,.slice (some ⟨g5,0,none⟩) (i+1) cap,.slice none 0 0,.slice none 0 0] 53 (0,0)) /\
     (w5.setCell ⟨w.heap.size,2,none⟩ (.slice (some ⟨g5,0,none⟩) (i+1) cap)).ownsRow w.heap.size 3 1 (.slice (some ⟨g5,0,none⟩) (i+1) cap) (i+1) (aQ (List.range (i+1))) /\
     af [] w (w5.setCell ⟨w.heap.size,2,none⟩ (.slice (some ⟨g5,0,none⟩) (i+1) cap))):=by
    refine ⟨Jl,?_,?_⟩
    ·have e:aQ (List.range (i+1))=aQ (List.range i)++[.int .i64 i]:=by simp [aQ,List.range_succ]
     rw [e];exact bf aK (by simp only [Value.ownBlock,ne_eq,Option.some.injEq];exact fun e=>hg5 e.symm) _
    ·exact ((HR.out.2.1.alloc (.cells #[.int .i64 i] 3 (0,0))).grown dh fun k hk=>.inr (HR.out.1.lt k hk).1).setCell (p:=⟨w.heap.size,2,none⟩) (.inr (Nat.le_refl _)) _
   clear aK dh bI kF Nc Jl hg5;go_wp2_with fail
   go_roundg (n-(i+1))
   case measure=>omega
   case rel=>exact ⟨i+1,_,rfl,by omega,by simp,HE.out.1,HE.out.2.1,HE.out.2.2⟩
  ·obtain rfl:i=n:=by omega
   have fF:¬ ((i:Int)<(i:Int)):=by omega
   have HE:Hid (afl i c w (.returned (.pointer (some ⟨w.heap.size,0,none⟩))) wr):=by
    refine ⟨w.heap.size,⟨ov,.slice none 0 0,.slice none 0 0⟩,rfl,Nat.le_refl _,⟨hB,?_,⟨[],rfl,World.ownsRow_nil _ _ _ _,fun j h d hj=>by simp [MV.new] at hj⟩,World.ownsRow_nil _ _ _ _,fun k _ hk=>by simp [Value.ownBlock] at hk,fun k hk=>hk⟩,hU,fun k hk=>.inr ?_⟩
    ·show wr.ownsRow 0 _ 1 ov (List.range i).length (aQ (List.range i))
     rw [List.length_range];exact df hR (Nat.zero_le _)
    ·rcases bG.mem.1 hk with rfl | h | h | h
     ·exact Nat.le_refl _
     ·exact (hR.lt k h).1
     ·simp [Value.ownBlock] at h
     ·simp [Value.ownBlock] at h
   clear hB hR hU;go_wp2_with fail;go_ret;exact HE.out
end Go.Proofs.YtfkopmhpppeheaaGreat
namespace Go.Proofs.YtfkopmhpppeheaaGreat
def Nk (K:KV) (S:((Nat->Bool)->Bool)->Prop) (t:(Nat->Bool)->Bool) (r:Nat) (code:Int) (K':KV):Prop :=
 (code=0/\K.Ext K'/\K'.A.tk r=true/\(∀ y,K'.den r y=t y)/\(∀ x,K'.hold x=K.hold x+if x=r/\2<=r then 1 else 0)/\∀ x,K'.A.tk x=true->K.A.tk x=false->S (K'.den x)) \/
 (code=9/\r=0/\K.Ext K'/\K'.Ext K/\(∀ x,K'.hold x=K.hold x)/\tH K S)
theorem KV.Ext.akg {K K':KV} (h:K.Ext K') {t g:(Nat->Bool)->Bool}:K'.jv t g↔K.jv t g:=by
 constructor
 ·rintro ⟨l,a,e⟩;exact ⟨l,a,fun x=>by rw [e,h.mix]⟩
 ·rintro ⟨l,a,e⟩;exact ⟨l,a,fun x=>by rw [e,h.mix]⟩
theorem tH.back {K K':KV} {S:((Nat->Bool)->Bool)->Prop} (hw:K'.Wf []) (e:K.Ext K') (hn:∀ x,K'.A.tk x=true->K.A.tk x=false->S (K'.den x)) (h:tH K' S):tH K S:=by
 obtain ⟨K1,g,k1,u1,ext,new,uP,hg,hx⟩:=h;refine ⟨K1,g,k1,u1,e.trans ext,fun x h1 h2=>?_,uP,hg,hx⟩
 cases h3:K'.A.tk x with
 | false=>exact new x h1 h3
 | true =>
  have e1:K1.den x=K'.den x:=funext fun y=>ext.den hw y h3
  rw [e1];exact hn x h3 h2
structure Split (K:KV) (t:TV) (v:Nat):Prop where
 ok:t.Ok
 n:t.n=K.vars
 vn:v<K.vars
 dep:oW t v=true
 no:∀ x,x<K.vars->K.lev x<K.lev v->oW t x=false
theorem Split.fn {K:KV} {t:TV} {v:Nat} (h:Split K t v) (y:Nat->Bool):t.fn y=if y v then (cO t v true).fn y else (cO t v false).fn y:=by
 rw [iG (by rw [h.n];exact h.vn),iG (by rw [h.n];exact h.vn)]
 cases hb:y v with
 | true=>rw [if_pos rfl];congr 1;rw [<- hb,yL]
 | false=>rw [if_neg (by simp)];congr 1;rw [<- hb,yL]
theorem CG {K:KV} {t:TV} {v:Nat} (h:Split K t v) (b:Bool) {x:Nat} (hx:x<K.vars) (hl:K.lev x<K.lev v\/x=v):¬ jI (cO t v b).fn x:=by
 rintro ⟨y,hy⟩;refine hy ?_;rw [iG (by rw [h.n];exact h.vn),iG (by rw [h.n];exact h.vn)]
 by_cases e:x=v
 ·subst e
  congr 1
  funext u;simp only [upd];by_cases hu:u=x <;> simp [hu]
 ·have bK:=h.no x hx (hl.resolve_right e)
  have hnh:¬ jI t.fn x:=fun hh=>by
   have:=(nG h.ok (by rw [h.n];exact hx)).2 hh
   rw [bK] at this;cases this
  have key:∀ (z:Nat->Bool) (c d:Bool),t.fn (upd z x c)=t.fn (upd z x d):=fun z c d=>by
   have e1:t.fn (upd z x true)=t.fn (upd z x false):=by
    by_cases e1:t.fn (upd z x true)=t.fn (upd z x false)
    ·exact e1
    ·exact absurd ⟨z,e1⟩ hnh
   cases c <;> cases d <;> first | rfl | exact e1 | exact e1.symm
  have sw:∀ c,upd (upd y x c) v b=upd (upd y v b) x c:=fun c=>by
   funext u;simp only [upd]
   by_cases h1:u=v
   ·subst h1;simp [Ne.symm e]
   ·simp [h1]
  rw [sw,sw];exact key _ _ _
theorem Split.below {K:KV} {t:TV} {v:Nat} (h:Split K t v) {K':KV} (e:K.Ext K') (hk:K'.Ok) (hu:K'.Uni) {r:Nat} {b:Bool} (ht:K'.A.tk r=true) (hd:∀ y,K'.den r y=(cO t v b).fn y):K'.lev v<K'.dep r:=by
 by_cases h2:2<=r
 ·obtain ⟨u,uZ,Qz,hh,_⟩:=hk.gI hu h2 ht
  have hf:K'.den r=(cO t v b).fn:=funext hd;rw [hf] at hh;rw [Qz]
  by_cases aW:K'.lev v<K'.lev u
  ·exact aW
  ·exfalso
   rw [e.vr] at uZ;refine CG h b uZ ?_ hh;rw [e.lev,e.lev] at aW
   by_cases e1:K.lev u<K.lev v
   ·exact .inl e1
   ·right
    have p:=hk.ord.pm;exact p.inj (by rw [e.vr];exact uZ) (by rw [e.vr];exact h.vn) (by rw [e.lev,e.lev];omega)
 ·rw [hk.wf.dH (by omega)]
  exact (hk.ord.pm.lo v (by rw [e.vr];exact h.vn)).1
theorem Split.ne {K:KV} {t:TV} {v:Nat} (h:Split K t v) {K':KV} {a b:Nat} (ha:∀ y,K'.den a y=(cO t v false).fn y) (hb:∀ y,K'.den b y=(cO t v true).fn y):a≠b:=by
 rintro rfl;obtain ⟨y,hy⟩:=(nG h.ok (by rw [h.n];exact h.vn)).1 h.dep;refine hy ?_;have:=(ha y).symm.trans (hb y);rw [iG (by rw [h.n];exact h.vn),iG (by rw [h.n];exact h.vn)] at this;exact this.symm
theorem Split.sub {K:KV} {t:TV} {v:Nat} (h:Split K t v) (hp:K.Perm) {b:Bool} {g:(Nat->Bool)->Bool} (hg:K.jv (cO t v b).fn g):K.jv t.fn g:=by
 obtain ⟨l,a,e⟩:=hg;have Ht:=(hp.lo v h.vn).1;refine ⟨max l (K.lev v+1),upd (fun u=>if K.lev u<K.lev v+1 then false else a u) v b,fun x=>?_⟩
 rw [e,<- nJ hp (g:=(cO t v b).fn) (K.lev v+1) (by omega) (fun u hu hl=>CG h b hu (by
  by_cases e1:K.lev u<K.lev v
  ·exact .inl e1
  ·exact .inr (hp.inj hu h.vn (by omega)))) (fun _=>false),iG (by rw [h.n];exact h.vn)]
 refine TV.AU t fun u hu=>?_
 rw [h.n] at hu
 simp only [upd,KV.mix]
 by_cases e1:u=v
 ·subst e1;simp [hu];omega
 ·rw [if_neg e1]
  by_cases h1:K.lev u<K.lev v+1
  ·rw [if_pos ⟨hu,h1⟩,if_pos ⟨hu,by omega⟩,if_neg e1,if_pos h1]
  ·rw [if_neg fun k=>h1 k.2]
   by_cases h2:K.lev u<l
   ·rw [if_pos ⟨hu,h2⟩,if_pos ⟨hu,by omega⟩,if_neg e1,if_neg h1]
   ·rw [if_neg fun k=>h2 k.2,if_neg (by omega)]
theorem Split.aah {K:KV} {t:TV} {v:Nat} (h:Split K t v) (hp:K.Perm) (b:Bool) {d:Nat} (hd:d+K.lev v+1=K.vars) {u:Nat} (hu:u<K.vars) (hl:K.lev u+d<K.vars):oW (cO t v b) u=false:=by
 cases e:oW (cO t v b) u with
 | false=>rfl
 | true =>
  exfalso
  refine CG h b hu ?_ ((nG (qJ h.ok v b) (by show u<t.n;rw [h.n];exact hu)).1 e)
  by_cases e1:K.lev u<K.lev v
  ·exact .inl e1
  ·exact .inr (hp.inj hu h.vn (by omega))
theorem UI {K K2 K3:KV} {t:TV} {v a b r:Nat} {code:Int} {S:((Nat->Bool)->Bool)->Prop} (h:Split K t v) (e2:K.Ext K2) (k2:K2.Ok) (u2:K2.Uni) (ta:K2.A.tk a=true) (tb:K2.A.tk b=true)
  (da:∀ y,K2.den a y=(cO t v false).fn y) (db:∀ y,K2.den b y=(cO t v true).fn y) (hh:∀ x,K2.hold x<65535) (hS:S t.fn) (hn:∀ x,K2.A.tk x=true->K.A.tk x=false->S (K2.den x)) (k3:K3.Ok) (M:jJ K2 (v:Int) a b r code K3) :
  (code=0/\K2.Ext K3/\K3.A.tk r=true/\(∀ y,K3.den r y=t.fn y)/\(∀ x,K3.hold x=K2.hold x+if x=r/\2<=r then 1 else 0)/\∀ x,K3.A.tk x=true->K.A.tk x=false->S (K3.den x)) \/
  (code=9/\r=0/\K3=K2/\tH K S):=by
 have la:=h.below e2 k2 u2 ta da;have lb:=h.below e2 k2 u2 tb db;have hne:=h.ne da db
 have wZ:v<K2.vars:=by rw [e2.vr];exact h.vn
 have akh:K2.dY v a b=0:=by
  unfold KV.dY
  have hiv:K2.isVar (v:Int)=true:=by simp [KV.isVar];omega
  rw [if_neg (by rw [hiv];simp),if_neg (by rw [ta,tb];simp),if_neg];rintro ⟨_,h2⟩;refine h2 ?_
  rw [Int.toNat_natCast];omega
 have dn:∀ y,t.fn y=if y v then K2.den b y else K2.den a y:=fun y=>by rw [h.fn,da,db]
 cases M with
 | bad h0=>exact absurd akh h0
 | @full r h0 hs hm=>have:=hh r;omega
 | @old r h0 hs hm =>
  left
  rcases hs with ⟨e,_⟩ | ⟨_,bI⟩
  ·exact absurd e hne
  ·rw [Int.toNat_natCast] at bI
   have ht:=bI.tk;have Yr:=(k2.kept ht hm).2;refine ⟨rfl,Yr.ext,by rw [Yr.A];exact ht,fun y=>?_,fun x=>by rw [Yr.hd];by_cases e:x=r/\2<=r <;> simp [e],fun x h1 h2=>?_⟩
   ·rw [Yr.ext.den k2.wf y ht,bI.den k2,dn]
   ·rw [Yr.A] at h1
    have e1:(K2.bW r).den x=K2.den x:=funext fun y=>Yr.ext.den k2.wf y h1
    rw [e1];exact hn x h1 h2
 | nodes h0 hne' bK uP =>
  right
  simp only [Int.toNat_natCast] at bK
  refine ⟨rfl,rfl,rfl,K2,t.fn,k2,u2,e2,hn,uP,hS,fun x hx hd=>?_⟩;exact bK x (KV.zI k2 u2 wZ ta tb la lb hne hx fun y=>by rw [hd,dn])
 | @new r K' h0 hne' bK hm =>
  left;rw [Int.toNat_natCast] at hm
  have hdr:∀ y,K3.den r y=t.fn y:=fun y=>by
   have bI:K3.At r v a b:=⟨hm.two,_,hm.at_,rfl,rfl,rfl,rfl⟩;rw [bI.den k3,hm.ext.den k2.wf y ta,hm.ext.den k2.wf y tb,dn]
  refine ⟨rfl,hm.ext,by rw [hm.tk];simp,hdr,fun x=>?_,fun x h1 h2=>?_⟩
  ·rw [hm.hd]
   by_cases e:x=r
   ·subst e
    have h9:K2.hold x=0:=by
     by_cases h9:K2.hold x=0
     ·exact h9
     ·have:=(k2.wf.ht x (by omega)).2
      rw [hm.no] at this;cases this
    simp [hm.two,h9]
   ·simp [e]
  ·rw [hm.tk] at h1
   by_cases e:x=r
   ·subst e
    have e1:K3.den x=t.fn:=funext hdr
    rw [e1];exact hS
   ·simp [e] at h1
    have e1:K3.den x=K2.den x:=funext fun y=>hm.ext.den k2.wf y h1
    rw [e1];exact hn x h1 h2
theorem Yt {K K3 K5:KV} {r:Nat} {S:((Nat->Bool)->Bool)->Prop} {t:(Nat->Bool)->Bool} (k0:K.Ok) (k5:K5.Ok) (e3:K.Ext K3) (e5:K5.Ext K3) (dr:∀ y,K3.den r y=t y) (hd:∀ x,K5.hold x=K.hold x+if x=r/\2<=r then 1 else 0)
  (hn:∀ x,K3.A.tk x=true->K.A.tk x=false->S (K3.den x)):Nk K S t r 0 K5:=by
 left
 have e:K.Ext K5:=sO k0 k5 e3 e5 fun x hx=>by rw [hd];omega
 have tr5:K5.A.tk r=true:=by
  by_cases h2:2<=r
  ·exact (k5.wf.ht r (by rw [hd];simp [h2])).2
  ·exact k5.gX (by omega)
 refine ⟨rfl,e,tr5,fun y=>?_,hd,fun x h1 h2=>?_⟩
 ·rw [<- e5.den k5.wf y tr5];exact dr y
 ·have h3:=e5.tk h1
  have e1:K3.den x=K5.den x:=funext fun y=>e5.den k5.wf y h1
  rw [<- e1];exact hn x h3 h2
theorem O1 {K K2 K5:KV} {S:((Nat->Bool)->Bool)->Prop} {t:(Nat->Bool)->Bool} (k0:K.Ok) (k5:K5.Ok) (e2:K.Ext K2) (e5:K5.Ext K2) (hd:∀ x,K5.hold x=K.hold x) (bK:tH K S):Nk K S t 0 9 K5:=by
 right;exact ⟨rfl,rfl,sO k0 k5 e2 e5 fun x hx=>by rw [hd];exact hx,sO k5 k0 e5 e2 fun x hx=>by rw [<- hd];exact hx,hd,bK⟩
end Go.Proofs.YtfkopmhpppeheaaGreat
namespace Go.Proofs.YtfkopmhpppeheaaGreat
open Go.RowKit Go.Maps Go.ChangeMaps Go.WideShapes
structure l9 (F:List Nat) (w:World) (F':List Nat) (w':World):Prop where
 up:af F w w'
 sub:Sub F w F'
theorem l9.trans {F F1 F2:List Nat} {w w1 w2:World} (h:l9 F w F1 w1) (k:l9 F1 w1 F2 w2):l9 F w F2 w2 :=
 ⟨h.up.then k.up h.sub,fun x hx=>(k.sub x hx).elim (h.sub x) fun h2=>.inr (Nat.le_trans h.up.size h2)⟩
theorem l9.of0 {F:List Nat} {w w1:World} (h:af [] w w1):l9 F w F w1:=⟨h.mono (by simp),Sub.refl _ _⟩
theorem Yu (b:Nat) (v:Int) (lo hi:Nat) (K:KV) (F:List Nat) (w:World) (h:aZ w b K F) (h1:lo<=4294967295) (h2:hi<=4294967295) :
  Calls Tryz.prog 137 #[.pointer (some ⟨b,0,none⟩),.int .i64 v,.int .u32 lo,.int .u32 hi] w fun e w' =>
   ∃ (r:Nat) (code:Int) (K':KV) (F':List Nat),e=.returned (.tuple #[.int .u32 r,.int .i64 code])/\jJ K v lo hi r code K'/\aZ w' b K' F'/\af F w w'/\Sub F w F':=by
 obtain ⟨T,q,hk,rfl⟩:=h;refine (yH b v lo hi K T q w hk h1 h2).mono ?_;rintro e w' ⟨r,code,K',T',q',rfl,hM,dB,hu,hs⟩;exact ⟨r,code,K',_,rfl,hM,⟨T',q',dB,rfl⟩,hu,hs⟩
theorem Hz (b r:Nat) (K:KV) (F:List Nat) (w:World) (h:aZ w b K F) (hr:r<=4294967295) (hh:2<=r->0<K.hold r) :
  Calls Tryz.prog 34 #[.pointer (some ⟨b,0,none⟩),.int .u32 r] w fun e w' =>
   ∃ (K':KV) (F':List Nat),e=.returned (.int .i64 0)/\K.Dropped r K'/\aZ w' b K' F'/\af F w w'/\Sub F w F':=by
 obtain ⟨T,q,hk,rfl⟩:=h;refine (FW b r K T q w hk hr).mono ?_;rintro e w' ⟨code,K',T',q',rfl,hM,dB,hu,hs⟩
 rcases hM with ⟨_,h2,h0,_⟩ | ⟨rfl,_,hD⟩
 ·have:=hh h2;omega
 ·exact ⟨K',_,rfl,hD,⟨T',q',dB,rfl⟩,hu,hs⟩
structure UJ (K:KV) (M:MV):Prop where
 od:M.order=K.order
 n:M.n=K.vars
theorem UJ.ext {K K':KV} {M:MV} (h:UJ K M) (e:K.Ext K'):UJ K' M:=⟨h.od.trans e.od.symm,h.n.trans e.vr.symm⟩
end Go.Proofs.YtfkopmhpppeheaaGreat
