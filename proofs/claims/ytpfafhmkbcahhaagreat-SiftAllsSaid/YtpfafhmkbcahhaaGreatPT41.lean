import Derived.Test.YtpfafhmkbcahhaaGreatPT40
set_option maxRecDepth 100000
set_option maxHeartbeats 3200000
namespace Go.Proofs.YtpfafhmkbcahhaaGreat
open Go.RowKit Go.Maps Go.ChangeMaps Go.WideShapes
theorem le_antisymm {a b:It} (h:le a b) (h':le b a):a=b:=by
 rw [le_iff] at h h'
 cases a;cases b
 simp only [It.mk.injEq] at *
 omega
theorem MV.it_inj {M:MV} {u v:Nat} (h:M.it u=M.it v):u=v:=by
 unfold MV.it at h
 simp only [It.mk.injEq] at h
 omega
def MV.qle (M:MV) (u v:Nat):Prop:=le (M.it u) (M.it v)
theorem MV.qle_iff {M:MV} {u v:Nat}:M.qle u v↔M.wid v<M.wid u\/(M.wid u=M.wid v/\u<=v):=by
 unfold MV.qle;rw [le_iff];unfold MV.it
 simp only
 omega
structure QSort (M:MV) (n:Nat) (L:List Nat):Prop where
 pm:L.Perm (List.range n)
 ord:L.Pairwise M.qle
theorem sorted_one {M:MV}:∀ {l1 l2:List Nat},l1.Perm l2->l1.Pairwise M.qle->l2.Pairwise M.qle->l1=l2
 | [],l2,h,_,_=>(List.nil_perm.1 h).symm
 | a::l1,[],h,_,_=>by have:=h.length_eq;simp at this
 | a::l1,b::l2,h,h1,h2=>by
  have ha:=List.pairwise_cons.1 h1;have hb:=List.pairwise_cons.1 h2
  have hab:a=b:=by
   rcases List.mem_cons.1 (h.subset (List.mem_cons_self (a:=a) (l:=l1))) with e | hm
   ·exact e
   ·rcases List.mem_cons.1 (h.symm.subset (List.mem_cons_self (a:=b) (l:=l2))) with e | hm'
    ·exact e.symm
    ·exact MV.it_inj (le_antisymm (ha.1 b hm') (hb.1 a hm))
  subst hab;rw [sorted_one ((List.perm_cons a).1 h) ha.2 hb.2]
theorem QSort.one {M:MV} {n:Nat} {L L':List Nat} (h:QSort M n L) (h':QSort M n L'):L=L' :=
 sorted_one (h.pm.trans h'.pm.symm) h.ord h'.ord
theorem QSort.len {M:MV} {n:Nat} {L:List Nat} (h:QSort M n L):L.length=n:=by rw [h.pm.length_eq,List.length_range]
structure Bub (M:MV) (i:Nat) (A B:List Nat):Prop where
 pm:(A++B).Perm (List.range i)
 ord:(A++B).Pairwise M.qle
 lt:∀ x,x∈B->M.wid x<M.wid i
theorem Bub.start {M:MV} {i:Nat} {L:List Nat} (h:QSort M i L):Bub M i L []:=⟨by simpa using h.pm,by simpa using h.ord,by simp⟩
theorem Bub.step {M:MV} {i x:Nat} {A B:List Nat} (h:Bub M i (A++[x]) B) (hx:M.wid x<M.wid i):Bub M i A (x::B) :=
 ⟨by simpa using h.pm,by simpa using h.ord,fun y hy=>by
  rcases List.mem_cons.1 hy with rfl | hy
  ·exact hx
  ·exact h.lt y hy⟩
theorem Bub.done {M:MV} {i:Nat} {A B:List Nat} (h:Bub M i A B) (hx:∀ A' x,A=A'++[x]->M.wid i<=M.wid x):QSort M (i+1) (A++i::B):=by
 have hm:∀ y,y∈A++B->y<i:=fun y hy=>List.mem_range.1 (h.pm.subset hy)
 obtain ⟨o1,o2,o3⟩:=List.pairwise_append.1 h.ord
 have hB:∀ y,y∈B->M.qle i y:=fun y hy=>MV.qle_iff.2 (.inl (h.lt y hy))
 have hA:∀ y,y∈A->M.qle y i:=fun y hy=>by
  rcases List.eq_nil_or_concat A with e | ⟨A',x,e⟩
  ·subst e;simp at hy
  ·have e':A=A'++[x]:=by rw [e];simp
   have h1:=hx A' x e';subst e'
   have h2:M.wid x<=M.wid y:=by
    rcases List.mem_append.1 hy with h3 | h3
    ·have:=(List.pairwise_append.1 o1).2.2 y h3 x (by simp)
     rw [MV.qle_iff] at this;omega
    ·simp at h3;subst h3;exact Nat.le_refl _
   have h4:=hm y (List.mem_append.2 (.inl hy));rw [MV.qle_iff];omega
 refine ⟨?_,List.pairwise_append.2 ⟨o1,List.pairwise_cons.2 ⟨hB,o2⟩,fun a ha b hb=>?_⟩⟩
 ·refine List.perm_middle.trans ?_
  rw [List.range_succ];exact (h.pm.cons i).trans (List.perm_append_singleton i (List.range i)).symm
 ·rcases List.mem_cons.1 hb with rfl | hb
  ·exact hA a ha
  ·exact o3 a ha b hb
structure QOut (M:MV) (n:Nat) (L:List Nat) (Kl:List It):Prop where
 pm:(L.map M.it++Kl).Perm ((List.range n).map M.it)
 ord:L.Pairwise M.qle
 le:∀ x,x∈L->∀ c,c∈Kl->le (M.it x) c
theorem QOut.start {M:MV} {n:Nat} {Kl:List It} (h:Kl.Perm ((List.range n).map M.it)):QOut M n [] Kl:=⟨by simpa using h,List.Pairwise.nil,by simp⟩
theorem QOut.step {M:MV} {n:Nat} {L:List Nat} {Kl K':List It} {a:It} (h:QOut M n L Kl) (hp:(a::K').Perm Kl) (hl:∀ c,c∈K'->Go.Proofs.YtpfafhmkbcahhaaGreat.le a c):∃ u,u<n/\a=M.it u/\QOut M n (L++[u]) K':=by
 have ha:a∈Kl:=hp.subset (List.mem_cons_self ..);obtain ⟨u,hu,rfl⟩:=List.mem_map.1 (h.pm.subset (List.mem_append.2 (.inr ha)));refine ⟨u,List.mem_range.1 hu,rfl,?_,?_,fun x hx c hc=>?_⟩
 ·rw [List.map_append,List.append_assoc]
  exact (List.Perm.append_left _ hp).trans h.pm
 ·refine List.pairwise_append.2 ⟨h.ord,List.pairwise_singleton _ _,fun x hx y hy=>?_⟩
  simp at hy;subst hy
  exact h.le x hx _ ha
 ·rcases List.mem_append.1 hx with hx | hx
  ·exact h.le x hx c (hp.subset (List.mem_cons_of_mem _ hc))
  ·simp at hx;subst hx;exact hl c hc
theorem QOut.done {M:MV} {n:Nat} {L:List Nat} (h:QOut M n L []):QSort M n L:=by
 refine ⟨?_,h.ord⟩;have:=h.pm;rw [List.append_nil] at this;have:=this.map (fun a:It=>a.x.toNat)
 simpa [MV.it,Function.comp_def] using this
theorem QOut.len {M:MV} {n:Nat} {L:List Nat} {Kl:List It} (h:QOut M n L Kl):L.length+Kl.length=n:=by
 have:=h.pm.length_eq
 simpa using this
theorem MV.wid_le {M:MV} (hf:M.Fit) (v:Nat):M.wid v<=25344000:=by
 unfold MV.wid;rw [List.getD_eq_getElem?_getD]
 cases h:M.lev[M.lvl v]? with
 | none=>simp
 | some l=>exact Nat.le_trans (mem_len_flat (List.mem_of_getElem? h)) hf.lev_leS
theorem QIn.push {w wr:World} {hb i:Nat} {M:MV} (h:QIn w hb M i wr) (hlo:w.heap.size<=hb) (hi:i<=64) :
  Calls Tryz.prog 130 #[.pointer (some ⟨hb,0,none⟩),.int .i64 i,.int .i64 (-(M.wid i:Int))] wr fun e w'=>e=.returned (.int .i64 0)/\QIn w hb M (i+1) w':=by
 have hwf:(Lit.int .i64 (M.it i).x).wf=true:=wf64 (by show _<=(i:Int);omega) (by show (i:Int)<=_;omega)
 rcases h.ex with ⟨rfl,hc⟩ | ⟨Kl,Fl,h1,h2,h3⟩
 ·refine (push_first hb (M.it 0) wr hc hwf).mono ?_
  rintro e w' ⟨rfl,F',q1,q2,q3⟩;refine ⟨rfl,.inr ⟨[M.it 0],F',q1,?_,fun k hk=>?_⟩,h.up.then q2 fun k hk=>.inr (by simp at hk;omega)⟩
  ·rw [show List.range (0+1)=[0] from rfl];exact List.Perm.refl _
  ·have hs:=h.up.size
   rcases q3 k hk with hk | hk
   ·simp at hk;omega
   ·omega
 ·have hl:Kl.length=i:=by rw [h2.length_eq];simp
  refine (push_new hb Kl Fl (M.it i) wr h1 (fun c hc e=>?_) hwf (by omega)).mono ?_
  ·obtain ⟨u,hu,rfl⟩:=List.mem_map.1 (h2.subset hc)
   have:=List.mem_range.1 hu;have e:(u:Int)=(i:Int):=e;omega
  ·rintro e w' ⟨rfl,K',F',q1,q2,q3,q4⟩
   refine ⟨rfl,.inr ⟨K',F',q1,?_,fun k hk=>?_⟩,h.up.then q3 fun k hk=>.inr (h3 k hk)⟩
   ·rw [List.range_succ,List.map_append]
    exact q2.trans (h2.append_right _)
   ·have hs:=h.up.size
    rcases q4 k hk with hk | hk
    ·exact h3 k hk
    ·omega
structure QueQ (M:MV) (n0:Nat) (w:World) (e:Ending) (w':World):Prop where
 ex:∃ (lv:Value) (L:List Nat),e=.returned lv/\QSort M M.n L/\w'.ownsRow n0 3 1 lv L.length (flatN L)/\Upd [] w w'
structure QRow (w w1:World) (hb n:Nat) (M:MV) (Fl:List Nat) (lv:Value) (g:Nat) (wr:World):Prop where
 ex:∃ (L:List Nat) (Kl:List It),Kl.length=g/\wr.ownsRow w1.heap.size 3 1 lv L.length (flatN L)/\HpAt wr hb Kl Fl/\QOut M n L Kl
 up:Upd Fl w1 wr
theorem queue_spec (b:Nat) (K:KV) (F:List Nat) (M:MV) (w:World) (h:KerAt w b K F) (hm:KM K M) :
  Calls Tryz.prog 33 #[.pointer (some ⟨b,0,none⟩)] w fun e w'=>QueQ M w.heap.size w e w':=by
 obtain ⟨ti,hi2,hz2,hs2,hb2⟩:=info_parts Tryz.infoIntM;have HI:=Lib.hid (And.intro hi2 (And.intro hz2 (And.intro hs2 hb2)));have hn:=hm.agr.same.n;have hvs:=h.ok.wf.vs;have hn6:=hm.fit.n6
 have HK:Hid (∀ z,Upd [] w z->KerAt z b K F):=fun z u=>h.upd u (by simp)
 have HVA:Hid (∀ z,Upd [] w z->Calls Tryz.prog 54 #[.pointer (some ⟨b,0,none⟩)] z fun e w'=>e=.returned (.int .i64 M.n)/\w'=z):=fun z u=>by
  rw [hn];exact vars_at b K F z (HK.out z u)
 have HWI:Hid (∀ (v:Nat) z,v<M.n->Upd [] w z->Calls Tryz.prog 60 #[.pointer (some ⟨b,0,none⟩),.int .i64 v] z fun e w'=>e=.returned (.tuple #[.int .i64 (M.wid v),.int .i64 0])/\Upd [] z w'):=fun v z hv u=>kwidth_spec b v K F M z (HK.out z u) hm hv
 have HWL:=Lib.hid hm.fit
 have hn1:1<=M.n:=by omega
 have HQ0:Hid (QIn w w.heap.size M 0 (w.alloc (.cells #[.slice none 0 0,.map none] 265 (0,0)))):=⟨.inl ⟨rfl,heap_alloc_new _ _⟩,(Upd.refl _ _).alloc _⟩;obtain ⟨n,hnn⟩ : ∃ n,M.n=n:=⟨_,rfl⟩;rw [hnn] at HVA HWI hn1 hn6;have HN:=Lib.hid hnn;clear h hm hn hvs hi2 hz2 hs2 hb2 hnn
 go_enter Tryz.func33,Tryz.ntmps33
 go_wp2_with fail;refine (newHeap_spec _).mono ?_;rintro e w1 ⟨rfl,rfl⟩;go_wp2_with fail;refine (HVA.out _ HQ0.out.up).mono ?_;rintro e w1 ⟨rfl,rfl⟩;go_wp2_with fail
 go_loopg [16] n (fun g s16 wr=>∃ i:Nat,n-i=g/\i<=n/\s16=.int .i64 i/\QIn w w.heap.size M i wr)
 case atStart=>exact ⟨0,by omega,by omega,rfl,HQ0.out⟩
 case round =>
  obtain ⟨i,rfl,hi,rfl,hQ⟩:=hrel
  by_cases hlt:i<n
  ·have hil:(i:Int)<(n:Int):=by omega
   have HQ:=Lib.hid hQ;clear hQ;go_wp2_with fail;refine (HWI.out i _ hlt HQ.out.up).mono ?_;rintro e w2 ⟨rfl,hu⟩;have hwl:=MV.wid_le HWL.out i;have hw1:IntKind.i64.wrap (-(M.wid i:Int))=-(M.wid i:Int):=IntWalk.i64_in _ (by omega);have HP:=Lib.hid ((HQ.out.keep hu).push (Nat.le_refl _) (by omega));generalize M.wid i=x at *;clear hu hwl;go_wp2_with fail;refine HP.out.mono ?_;rintro e w3 ⟨rfl,hQ⟩;have HQ3:=Lib.hid hQ;clear hQ;go_wp2_with fail
   go_roundg (n-(i+1))
   case measure=>omega
   case rel=>exact ⟨i+1,rfl,by omega,by simp,HQ3.out⟩
  ·obtain rfl:i=n:=by omega
   have hil:¬ ((i:Int)<(i:Int)):=by omega
   obtain ⟨Kl,Fl,hHp,hpm,hlo⟩ : ∃ (Kl:List It) (Fl:List Nat),HpAt wr w.heap.size Kl Fl/\Kl.Perm ((List.range i).map M.it)/\∀ k,k∈Fl->w.heap.size<=k:=by
    rcases hQ.ex with ⟨e,_⟩ | h
    ·omega
    ·exact h
   have hkl:Kl.length=i:=by rw [hpm.length_eq];simp
   have HUP:=Lib.hid hQ.up;have HLO:=Lib.hid hlo;have HFL:=Lib.hid hHp.lt;have HS:Hid (QRow w wr w.heap.size i M Fl (.slice none 0 0) i wr):=⟨⟨[],Kl,hkl,World.ownsRow_nil _ _ _ _,hHp,QOut.start hpm⟩,Upd.refl _ _⟩;generalize hw1:wr=wq at *;clear hw1;clear hQ hHp hpm hlo hkl;go_wp2_with fail
   go_loopg [7] i (fun g s7 wr=>QRow w wq w.heap.size i M Fl s7 g wr)
   case atStart=>exact HS.out
   case round =>
    obtain ⟨L,Kl,hg,hR,hH,hO⟩:=hrel.ex;have hU:=hrel.up;obtain ⟨la,lc,rfl,_⟩:=row_nil_len hR;have hln:=hO.len
    by_cases h0:Kl.length=0
    ·have HQQ:Hid (∀ z,Upd [] wr z->QueQ M w.heap.size w (.returned (.slice la L.length lc)) z):=fun z u=>by
      have hk0:Kl=[]:=List.length_eq_zero_iff.1 (by omega);subst hk0;refine ⟨_,L,rfl,?_,row_keep (row_base hR HUP.out.size) fun k hk=>u.block k (hR.lt k hk).2 (by simp),(HUP.out.then hU fun k hk=>.inr (HLO.out k hk)).trans u⟩
      rw [HN.out];exact hO.done
     have HL:=Lib.hid (len_spec _ Kl Fl wr hH)
     have hkz:¬ (0:Int)<(Kl.length:Int):=by omega
     generalize Kl.length=kl at *;generalize L.length=ll at *;clear hrel hR hH hO hU;go_wp2_with fail;refine HL.out.mono ?_;rintro e w2 ⟨rfl,rfl⟩;go_wp2_with fail;go_ret;exact HQQ.out _ (Upd.refl _ _)
    ·have hkl0:0<Kl.length:=by omega
     have hkz:(0:Int)<(Kl.length:Int):=by omega
     have HL:=Lib.hid (len_spec _ Kl Fl wr hH);have HP:=Lib.hid (hp_pop _ Kl Fl wr hH hkl0);have HX:=Lib.hid (And.intro hR (And.intro hU hO));have HG:=Lib.hid hg
     have hkg:Kl.length<=6:=by omega
     have hll:L.length<=6:=by omega
     obtain ⟨kl,hkle⟩ : ∃ kl,Kl.length=kl:=⟨_,rfl⟩;rw [hkle] at hkz HL hkl0 hkg;clear hrel hR hH hO hU hkle hg;go_wp2_with fail;refine HL.out.mono ?_;rintro e w2 ⟨rfl,rfl⟩;go_wp2_with fail;refine HP.out.mono ?_;rintro e w2 ⟨a,K',rfl,hH2,hpm2,hle2,hu2⟩;obtain ⟨u,hun,rfl,hO2⟩:=HX.out.2.2.step hpm2 hle2;have hl2:=hpm2.length_eq;rw [List.length_cons] at hl2
     have hR2:w2.ownsRow wq.heap.size 3 1 (.slice la L.length lc) L.length (flatN L):=row_keep HX.out.1 fun k hk=>hu2.block k (HX.out.1.lt k hk).2 fun hm=>by
      have h1:=HFL.out k hm;have h2:=(HX.out.1.lt k hk).1;omega
     have HR:=Lib.hid (And.intro hR2 (And.intro hH2 (And.intro hO2 (HX.out.2.1.trans hu2))));have HL2:=Lib.hid hl2
     have HC2:Hid (∀ x,x∈[Value.int .i64 u]->x.oneCell'=true):=by intro x hx;simp at hx;subst hx;rfl
     have hex:(M.it u).x=(u:Int):=rfl;rw [hex];generalize (M.it u).k=uk;clear hH2 hpm2 hle2 hu2 hO2 hl2 hR2 hex
     go_wp2_with (at_builtin;go_must (refine wpList_append_lies _ rfl (.tmp 40) (.tmp 42) 22 rfl wq.heap.size 3 ti _ 1 8 Tryz.underlying22 HI.out.1 HI.out.2.1 HI.out.2.2.1 HI.out.2.2.2 (by rfl) (by decide) _ L.length (flatN L) rfl (HR.out.1.alloc _) ⟨w2.heap.size,0,none⟩ 1 1 [.int .i64 u] rfl rfl ?c1 HC2.out (by omega) (by unfold maxLen;omega) (by omega) (by rw [World.size_alloc];have:=HR.out.2.2.2.size;omega) _ rfl ?_))
     case c1=>exact World.news_of_block (heap_alloc_new w2 (.cells #[.int .i64 u] 3 (0,0)))
     intro g5 cap w5 hown hgr hat hlt5
     have hU5:Upd [] w2 (w2.alloc (.cells #[.int .i64 u] 3 (0,0))):=(Upd.refl _ _).alloc _
     have HE:Hid (QRow w wq w.heap.size i M Fl (.slice (some ⟨g5,0,none⟩) (L.length+1) cap) K'.length w5):=by
      have hgu:∀ k,k∈Fl->w5.heap[k]?=w2.heap[k]?:=fun k hk=>by
       have h1:=HFL.out k hk;have h2:=HR.out.2.2.2.size
       rw [hgr.block k (by rw [World.size_alloc];omega) (fun e=>by
        have h3:=(HR.out.1.lt k (by simpa using e.symm)).1
        omega),Below.heap_alloc _ _ _ (by omega)]
      refine ⟨⟨L++[u],K',rfl,?_,?_,HR.out.2.2.1⟩,(HR.out.2.2.2.alloc _).grown hgr fun k hk=>.inr (HR.out.1.lt k hk).1⟩
      ·have e:flatN (L++[u])=flatN L++[.int .i64 u]:=by simp [flatN]
       rw [e,List.length_append];exact hown
      ·obtain ⟨D,m1,m2⟩:=HR.out.2.1.ex
       exact ⟨⟨D,m1.keep hgu,m2⟩,HR.out.2.1.ok,HR.out.2.1.hp⟩
     clear hown hgr hat hlt5 hU5;go_wp2_with fail
     go_roundg K'.length
     case measure=>have:=HL2.out;have:=HG.out;omega
     case rel=>exact HE.out
theorem Bub.len {M:MV} {i:Nat} {A B:List Nat} (h:Bub M i A B):A.length+B.length=i:=by
 have:=h.pm.length_eq
 simpa using this
theorem swap_mid:∀ (A B:List Nat) (x i:Nat),((A++[x]++i::B).set A.length i).set (A.length+1) x=A++i::x::B
 | [],_,_,_=>rfl
 | a::A,B,x,i=>by
  have:=swap_mid A B x i
  simp only [List.cons_append,List.length_cons,List.set_cons_succ] at this ⊢
  rw [this]
structure BRow (M:MV) (n0 i N:Nat) (g5 cap:Nat) (w:World) (j:Nat) (wr:World):Prop where
 ex:∃ A B:List Nat,A.length=j/\Bub M i A B/\wr.ownsRow n0 3 1 (.slice (some ⟨g5,0,none⟩) N cap) N (flatN (A++i::B))
 up:Upd [] w wr
theorem BRow.swap {M:MV} {n0 i N g5 cap k x:Nat} {w wr:World} {A B:List Nat} (h:Bub M i (A++[x]) B) (hA:A.length=k) (hN:i+1=N) (hx:M.wid x<M.wid i) (hr:wr.ownsRow n0 3 1 (.slice (some ⟨g5,0,none⟩) N cap) N (flatN ((A++[x])++i::B))) (u:Upd [] w wr) (h0:w.heap.size<=n0) :
  BRow M n0 i N g5 cap w k ((wr.setCell ⟨g5,k,none⟩ (.int .i64 (i:Nat))).setCell ⟨g5,k+1,none⟩ (.int .i64 (x:Nat))):=by
 have hl:=h.len;rw [List.length_append,List.length_cons,List.length_nil] at hl;have h1:=row_set hr (j:=k) (by omega) (.int .i64 (i:Nat));rw [flatN_setn] at h1;have h2:=row_set h1 (j:=k+1) (by omega) (.int .i64 (x:Nat));rw [flatN_setn] at h2
 have e:(((A++[x])++i::B).set k i).set (k+1) x=A++i::x::B:=by rw [<- hA];exact swap_mid A B x i
 rw [e] at h2;have hg:=(hr.lt g5 rfl).1;exact ⟨⟨A,x::B,hA,h.step hx,h2⟩,(u.setCell (p:=⟨g5,k,none⟩) (.inr (Nat.le_trans h0 hg)) _).setCell (p:=⟨g5,k+1,none⟩) (.inr (Nat.le_trans h0 hg)) _⟩
theorem BRow.drew {M:MV} {n0 i N g5 cap j:Nat} {w wr:World} (h:BRow M n0 i N g5 cap w j wr):BRow M n0 i N g5 cap w j wr.drew:=by
 obtain ⟨A,B,h1,h2,h3⟩:=h.ex;exact ⟨⟨A,B,h1,h2,row_keep h3 fun _ _=>rfl⟩,h.up.drew⟩
theorem rqueue_spec (m:Nat) (M:MV) (p:MPtr) (Z:List Nat) (w:World) (h:ModIn w m M p Z) (hZ:∀ k,k∈Z->k<w.heap.size) (hf:M.Fit) (hall:∀ u,u<M.n->u∈M.order) :
  Calls Tryz.prog 34 #[.pointer (some ⟨m,0,none⟩)] w fun e w'=>QueQ M w.heap.size w e w':=by
 obtain ⟨ti,hi2,hz2,hs2,hb2⟩:=info_parts Tryz.infoIntM;have HI:=Lib.hid (And.intro hi2 (And.intro hz2 (And.intro hs2 hb2)));have hn6:=hf.n6
 have HC0:Hid (∀ z,Upd [] w z->z.cell? ⟨m,0,none⟩=some (.int .i64 M.n)):=fun z u=>u.cell0 h.cells.1
 have HWI:Hid (∀ (v:Nat) z,v<M.n->Upd [] w z->Calls Tryz.prog 133 #[.pointer (some ⟨m,0,none⟩),.int .i64 v] z fun e w'=>e=.returned (.int .i64 (M.wid v))/\Upd [] z w'):=fun v z hv u =>
  mwidth_spec m v M p Z z (h.keep0 u) (fun k hk=>Nat.lt_of_lt_of_le (hZ k hk) u.size) hf (hall v hv)
 obtain ⟨n,hnn⟩ : ∃ n,M.n=n:=⟨_,rfl⟩;rw [hnn] at HC0 HWI hn6;have HN:=Lib.hid hnn;have c0:=HC0.out _ (Upd.refl _ _);clear h hZ hf hall hi2 hz2 hs2 hb2 hnn
 go_enter Tryz.func34,Tryz.ntmps34
 go_wp2_with fail
 go_loopg [3,4] n (fun g s3 s4 wr=>∃ (i:Nat) (L:List Nat),n-i=g/\i<=n/\s4=.int .i64 i/\wr.ownsRow w.heap.size 3 1 s3 i (flatN L)/\QSort M i L/\Upd [] w wr)
 case atStart=>exact ⟨0,[],by omega,by omega,rfl,World.ownsRow_nil _ _ _ _,⟨List.Perm.refl _,List.Pairwise.nil⟩,Upd.refl _ _⟩
 case round =>
  obtain ⟨i,L,rfl,hi,rfl,hR,hS,hU⟩:=hrel;obtain ⟨la,lc,rfl,_⟩:=row_nil_len hR;have d0:=HC0.out _ hU;clear c0
  by_cases hlt:i<n
  ·have hil:(i:Int)<(n:Int):=by omega
   have hLl:=hS.len;have HR:=Lib.hid (And.intro hR (And.intro hS hU))
   have HC2:Hid (∀ x,x∈[Value.int .i64 i]->x.oneCell'=true):=by intro x hx;simp at hx;subst hx;rfl
   clear hR hS hU hLl
   go_wp2_with (at_builtin;go_must (refine wpList_append_lies _ rfl (.tmp 14) (.tmp 16) 22 rfl w.heap.size 3 ti _ 1 8 Tryz.underlying22 HI.out.1 HI.out.2.1 HI.out.2.2.1 HI.out.2.2.2 (by rfl) (by decide) _ i (flatN L) rfl (HR.out.1.alloc _) ⟨wr.heap.size,0,none⟩ 1 1 [.int .i64 i] rfl rfl ?c1 HC2.out (by omega) (by unfold maxLen;omega) (by omega) (by rw [World.size_alloc];have:=HR.out.2.2.size;omega) _ rfl ?_))
   case c1=>exact World.news_of_block (heap_alloc_new wr (.cells #[.int .i64 i] 3 (0,0)))
   intro g5 cap w5 hown hgr hat hlt5
   obtain ⟨N,hN⟩ : ∃ N,i+1=N:=⟨_,rfl⟩;rw [hN] at hown ⊢
   have HB:Hid (BRow M w.heap.size i N g5 cap w i w5):=by
    refine ⟨⟨L,[],HR.out.2.1.len,Bub.start HR.out.2.1,?_⟩,(HR.out.2.2.alloc (.cells #[.int .i64 i] 3 (0,0))).grown hgr fun k hk=>.inr (HR.out.1.lt k hk).1⟩
    have e:flatN (L++i::[])=flatN L++[.int .i64 i]:=by simp [flatN]
    rw [e];exact hown
   have hNi:(N:Int)-1=(i:Int):=by omega
   have hN6:N<=64:=by omega
   clear hown hgr hat hlt5 d0;go_wp2_with fail
   go_loopg [5] i (fun gg s5 wr=>∃ g:Nat,g=gg/\s5=.int .i64 g/\BRow M w.heap.size i N g5 cap w g wr)
   case atStart=>exact ⟨i,rfl,by simp,HB.out⟩
   case round =>
    obtain ⟨g,rfl,rfl,hB⟩:=hrel;have HU:=Lib.hid hB.up;obtain ⟨A,B,hA,hBu,hR⟩:=hB.ex;have hlen:=hBu.len
    by_cases h0:g=0
    ·subst h0
     have hg0:decide ((0:Int)<((0:Nat):Int))=false:=by decide
     have HQ:Hid (∀ z,Upd [] wr z->z.ownsRow w.heap.size 3 1 (.slice (some ⟨g5,0,none⟩) N cap) N (flatN (A++i::B))/\QSort M N (A++i::B)/\Upd [] w z):=fun z u=>⟨row_keep hR fun k hk=>u.block k (hR.lt k hk).2 (by simp),by rw [<- hN];exact hBu.done (fun A' x e=>by subst e;simp at hA),HU.out.trans u⟩
     clear hB hA hBu hR hlen;go_wp2_with fail
     go_quiet (fail)
     go_wp2_with fail
     go_roundg (n-(i+1))
     case measure=>omega
     case rel =>
      refine ⟨i+1,A++i::B,rfl,by omega,by simp,?_⟩;rw [hN];exact HQ.out _ ((Upd.refl _ _).drewN _)
    ·obtain ⟨k,rfl⟩ : ∃ k,g=k+1:=⟨g-1,by omega⟩
     obtain ⟨A',x,rfl⟩ : ∃ A' x,A=A'++[x]:=by
      rcases List.eq_nil_or_concat A with e | ⟨A',x,e⟩
      ·subst e;simp at hA
      ·exact ⟨A',x,by rw [e];simp⟩
     have hA':A'.length=k:=by simpa using hA
     have hxl:x<i:=List.mem_range.1 (hBu.pm.subset (by simp))
     have hki:k+1<N:=by rw [List.length_append] at hlen;simp at hlen;omega
     have r0:(flatN (A'++[x]++i::B))[k]?=some (.int .i64 (x:Nat)):=by simp [flatN,<- hA']
     have r1:(flatN (A'++[x]++i::B))[k+1]?=some (.int .i64 (i:Nat)):=by
      have:(A'++[x]++i::B)[k+1]?=some i:=by rw [List.getElem?_append_right (by simp [hA'])];simp [hA']
      rw [flatN,List.getElem?_map,this];rfl
     have e0:=row_cell hR r0;have e1:=row_cell hR r1
     have q0:∀ z:Still wr,z.x.cell? ⟨g5,k,none⟩=some (.int .i64 (x:Nat)):=fun z=>z.cell e0
     have q1:∀ z:Still wr,z.x.cell? ⟨g5,k+1,none⟩=some (.int .i64 (i:Nat)):=fun z=>z.cell e1
     have HQ1:Hid (∀ z:Still wr,Calls Tryz.prog 133 #[.pointer (some ⟨m,0,none⟩),.int .i64 x] z.x fun e w'=>e=.returned (.int .i64 (M.wid x))/\∃ q:Still wr,w'=q.x):=fun z =>
      (HWI.out x z.x (by omega) (HU.out.trans z.u)).mono fun _ _ ⟨a,u⟩=>⟨a,⟨_,z.u.trans u⟩,rfl⟩
     have HQ2:Hid (∀ z:Still wr,Calls Tryz.prog 133 #[.pointer (some ⟨m,0,none⟩),.int .i64 i] z.x fun e w'=>e=.returned (.int .i64 (M.wid i))/\∃ q:Still wr,w'=q.x):=fun z =>
      (HWI.out i z.x (by omega) (HU.out.trans z.u)).mono fun _ _ ⟨a,u⟩=>⟨a,⟨_,z.u.trans u⟩,rfl⟩
     have HX:=Lib.hid (And.intro hBu (And.intro hA' hR));rw [Int.natCast_add,Int.natCast_one]
     have hw1:IntKind.i64.wrap ((k:Int)+1-1)=(k:Int):=by rw [Int.add_sub_cancel];exact IntWalk.i64_in _ (by omega)
     have hw2:(k:Int)+1-1=(k:Int):=by omega
     have hn1:((k:Int)+1).toNat=k+1:=by omega
     have hp1:(0:Int)<=(k:Int)+1:=by omega
     have hb0:(k:Int)<(N:Int):=by omega
     have hb1:(k:Int)+1<(N:Int):=by omega
     have hg0:decide ((0:Int)<(k:Int)+1)=true:=decide_eq_true (by omega)
     have hg1:(0:Int)<(k:Int)+1:=by omega
     have HIX:=Lib.hid (And.intro hxl hki);clear hB hA hBu hR hlen e0 e1 r0 r1 h0 hA' hxl
     by_cases hw:M.wid x<M.wid i
     ·have hd:decide ((M.wid x:Int)<(M.wid i:Int))=true:=decide_eq_true (by omega)
      have hd2:(M.wid x:Int)<(M.wid i:Int):=by omega
      have HW:=Lib.hid hw
      have HS:Hid (∀ z,Upd [] wr z->BRow M w.heap.size i N g5 cap w k ((z.setCell ⟨g5,k,none⟩ (.int .i64 (i:Nat))).setCell ⟨g5,k+1,none⟩ (.int .i64 (x:Nat)))):=fun z u=>BRow.swap HX.out.1 HX.out.2.1 hN hw (row_keep HX.out.2.2 fun k hk=>u.block k (HX.out.2.2.lt k hk).2 (by simp)) (HU.out.trans u) (Nat.le_refl _)
      have HFZ:Hid (∀ z,Upd [] wr z->z.frozen? ⟨g5,k,none⟩=false/\z.frozen? ⟨g5,k+1,none⟩=false):=fun z u=>by
       have hr:=row_keep HX.out.2.2 fun k hk=>u.block k (HX.out.2.2.lt k hk).2 (by simp)
       exact ⟨row_frozen hr k,row_frozen hr (k+1)⟩
      generalize M.wid x=wx at *;generalize M.wid i=wi at *;clear hw;go_wp2_with fail;refine wp_region_still (by kernel_rfl) (by kernel_rfl) ?_
      repeat (first | go_big_quiet_step ((first | (go_at_call_of 133 (Value.int IntKind.i64 (x:Int));exact HQ1.out _) | (go_at_call_of 133 (Value.int IntKind.i64 (i:Int));exact HQ2.out _))) | quiet_step ((first | (go_at_call_of 133 (Value.int IntKind.i64 (x:Int));exact HQ1.out _) | (go_at_call_of 133 (Value.int IntKind.i64 (i:Int));exact HQ2.out _))))
      refine wpQuiet_nil ?_;rintro _ ⟨n2,rfl⟩;have z0:=q0 n2;have z1:=q1 n2;obtain ⟨f0,f1⟩:=HFZ.out _ n2.u;clear q0 q1 HQ1 HQ2;go_wp2_with fail
      go_region
      go_wp2_with fail
      go_roundg k
      case measure=>omega
      case rel=>exact ⟨k,rfl,by simp,(HS.out _ n2.u).drew⟩
     ·have hd:decide ((M.wid x:Int)<(M.wid i:Int))=false:=decide_eq_false (by omega)
      have hd2:¬ (M.wid x:Int)<(M.wid i:Int):=by omega
      have HQ:Hid (∀ z,Upd [] wr z->z.ownsRow w.heap.size 3 1 (.slice (some ⟨g5,0,none⟩) N cap) N (flatN (A'++[x]++i::B))/\QSort M N (A'++[x]++i::B)/\Upd [] w z):=fun z u=>⟨row_keep HX.out.2.2 fun k hk=>u.block k (HX.out.2.2.lt k hk).2 (by simp),by
       rw [<- hN]
       refine HX.out.1.done fun A2 y e=>?_
       obtain ⟨_,e2⟩:=List.append_inj' e rfl
       simp at e2;subst e2;omega,HU.out.trans u⟩
      generalize M.wid x=wx at *;generalize M.wid i=wi at *;clear hw;go_wp2_with fail;refine wp_region_still (by kernel_rfl) (by kernel_rfl) ?_
      repeat (first | go_big_quiet_step ((first | (go_at_call_of 133 (Value.int IntKind.i64 (x:Int));exact HQ1.out _) | (go_at_call_of 133 (Value.int IntKind.i64 (i:Int));exact HQ2.out _))) | quiet_step ((first | (go_at_call_of 133 (Value.int IntKind.i64 (x:Int));exact HQ1.out _) | (go_at_call_of 133 (Value.int IntKind.i64 (i:Int));exact HQ2.out _))))
      refine wpQuiet_nil ?_;rintro _ ⟨n2,rfl⟩;clear q0 q1 HQ1 HQ2;go_wp2_with fail
      go_roundg (n-(i+1))
      case measure=>omega
      case rel =>
       refine ⟨i+1,A'++[x]++i::B,rfl,by omega,by simp,?_⟩;rw [hN];exact HQ.out _ n2.u
  ·obtain rfl:i=n:=by omega
   have hil:¬ ((i:Int)<(i:Int)):=by omega
   have HE:Hid (QueQ M w.heap.size w (.returned (.slice la i lc)) wr):=⟨_,L,rfl,by rw [HN.out];exact hS,by rw [hS.len];exact hR,hU⟩;clear hR hS hU;go_wp2_with fail;go_ret;exact HE.out
end Go.Proofs.YtpfafhmkbcahhaaGreat
