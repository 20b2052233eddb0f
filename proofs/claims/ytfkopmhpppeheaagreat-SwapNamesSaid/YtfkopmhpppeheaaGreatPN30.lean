import Derived.Test.YtfkopmhpppeheaaGreatPN29
import Derived.Test.YtfkopmhpppeheaaGreatPN12
import Derived.Test.YtfkopmhpppeheaaGreatPN18
import Derived.Test.YtfkopmhpppeheaaGreatPN20
import Derived.Test.YtfkopmhpppeheaaGreatPN1
import Derived.WalkKit
import Derived.ProofKit
import Derived.OpenShut
import Derived.ShutString
import Derived.ChangeOld
import Derived.ChangeSlices
import Derived.Below
import Derived.BigQuiet
set_option maxRecDepth 100000
set_option maxHeartbeats 3200000
namespace Go.Proofs.YtfkopmhpppeheaaGreat
open Go.RowKit Go.Maps Go.ChangeMaps Go.WideShapes
theorem ji.Zd {m:Nat} {M:MV} {p:bG} {Z:List Nat} {w:World} (h:fH w m M p Z):ji m p Z { M with trail:=[] } w (w.setCell ⟨m,4,none⟩ (.slice none 0 0)):=by
 have u:af [m] w (w.setCell ⟨m,4,none⟩ (.slice none 0 0)):=(af.refl _ w).setCell (p:=⟨m,4,none⟩) (.inl (by simp)) _;have hmZ:m∈Z:=h.sz _ (bG.mem.2 (.inl rfl))
 have key:∀ (t:TypeId),t≠53->(∃ cs fr,w.heap[m]?=some (.cells cs t fr))->False:=by
  rintro t he ⟨cs,fr,h1⟩;rw [h.blk] at h1
  injection h1 with h1
  injection h1 with _ h1 _
  exact he h1.symm
 have mr:Sub Z w (Z++bG.all ⟨p.ov,p.hv,.slice none 0 0⟩ m):=fun k hk=>by
  rcases List.mem_append.1 hk with hk | hk
  ·exact .inl hk
  ·rcases bG.mem.1 hk with rfl | h1 | h1 | h1
   ·exact .inl hmZ
   ·exact .inl (h.sz _ (bG.mem.2 (.inr (.inl h1))))
   ·exact .inl (h.sz _ (bG.mem.2 (.inr (.inr (.inl h1)))))
   ·simp [Value.ownBlock] at h1
 refine ⟨⟨p.ov,p.hv,.slice none 0 0⟩,⟨aB h.blk _,ai h.os fun k hk=>u.block k (h.os.lt k hk).2 fun hm=>?_,?_,World.ownsRow_nil _ _ _ _,fun k _ hk=>by simp [Value.ownBlock] at hk,fun k hk=>List.mem_append.2 (.inr hk)⟩,u.mono (fun k hk=>by simp at hk;subst hk;exact bG.mem.2 (.inl rfl)),fun k hk=>.inl ?_⟩
 ·simp at hm;subst hm;exact key _ (by decide) (bT h.os hk)
 ·refine (h.hs.apart mr).keep u (fun k hk=>?_) fun k hk hm=>?_
  ·simp at hk;subst hk;exact .inl (List.mem_append.2 (.inl hmZ))
  ·simp at hm;subst hm
   obtain ⟨xs,hr⟩:=h.hs.row;exact key _ (by decide) (bT hr hk)
 ·rcases bG.mem.1 hk with rfl | h1 | h1 | h1
  ·exact bG.mem.2 (.inl rfl)
  ·exact bG.mem.2 (.inr (.inl h1))
  ·exact bG.mem.2 (.inr (.inr (.inl h1)))
  ·simp [Value.ownBlock] at h1
theorem ji.pre {m:Nat} {M:MV} {p:bG} {Z:List Nat} {w w1 w2:World} (u:af [] w w1) (h:ji m p Z M w1 w2):ji m p Z M w w2:=by
 obtain ⟨p1,h1,u1,s1⟩:=h.ex;refine ⟨p1,h1,(u.mono (by simp)).trans u1,fun k hk=>?_⟩
 rcases s1 k hk with h | h
 ·exact .inl h
 ·right;have:=u.size;omega
theorem IJ (m:Nat) (M:MV) (p:bG) (Z:List Nat) (c:Value) (t:TV) (w:World) (h:fH w m M p Z) (hZ:∀ k,k∈Z->k<w.heap.size) (hf:M.Fit) (ht:jG w Z c t) (vg:t.n=M.n) (hm:∀ u,u∈M.held->u.2<=65535) :
  Calls Tryz.prog 62 #[.pointer (some ⟨m,0,none⟩),dI t c] w fun e w'=>e=.returned (.int .i64 (M.x8 t))/\ji m p Z (M.ans t) w w':=by
 obtain ⟨ta,tc,rfl,_⟩:=aj ht.row
 have HH:Hid (∀ z,af [] w z->Calls Tryz.prog 122 #[.pointer (some ⟨m,0,none⟩),dI t (.slice ta t.ws.length tc)] z fun e w'=>e=.returned (.int .i64 (M.holds t:Nat))/\af [] z w'):=fun z u =>
  MX m M p Z _ t z (h.keep0 u) (ht.keep0 u) (by have:=hf.hl;omega)
 have HFT:Hid (∀ (x:World) (B:Nat),af [] w x->x.heap[B]?=some (.cells #[.int .i64 t.n,.slice ta t.ws.length tc] 122 (0,0))->w.heap.size<=B->Calls Tryz.prog 138 #[.pointer (some ⟨m,0,none⟩),.slice (some ⟨B,0,none⟩) 1 1] x fun e w'=>e=.returned (.bool (M.fits [t]))/\af [] x w'):=fun x B u hB hs =>
  MW m 0 M p Z _ [t] x (h.keep0 u) (fun k hk=>Nat.lt_of_lt_of_le (hZ k hk) u.size) hf (iI.one hB (ht.keep0 u) (Nat.zero_le _) (fun hk=>by have:=hZ _ hk;omega)) (fun s hs=>by simp at hs;subst hs;exact vg) (by simp)
 have H1:Hid (∀ z,af [] w z->Calls Tryz.prog 139 #[.pointer (some ⟨m,0,none⟩),dI t (.slice ta t.ws.length tc)] z fun e w'=>UH m M p Z t z e w'):=fun z u =>
  Nh m M p Z _ t z (h.keep0 u) (fun k hk=>Nat.lt_of_lt_of_le (hZ k hk) u.size) (ht.keep0 u) (by have:=hf.hl;omega) hm
 have BN:Hid (∀ z,af [] w z->ji m p Z M w z):=fun z u=>ji.same h u
 obtain ⟨E,hE⟩ : ∃ E,M.x8 t=E:=⟨_,rfl⟩;obtain ⟨hd,hhd⟩ : ∃ hd,M.holds t=hd:=⟨_,rfl⟩;obtain ⟨ft,hft⟩ : ∃ ft,M.fits [t]=ft:=⟨_,rfl⟩
 have HE:Hid (E=if 65535<=hd then 8 else if ft then 0 else 9):=by show _=_;rw [<- hE];unfold MV.x8;rw [hhd,hft]
 have HA:Hid (M.ans t=if E=0 then { M.jB t with trail:=[] } else M):=by show _=_;unfold MV.ans;rw [hE]
 rw [hE];rw [hhd] at HH;rw [hft] at HFT;have HB:=Lib.hid (heap_alloc_new w (.cells #[.int .i64 t.n,.slice ta t.ws.length tc] 122 (0,0)));have hb:=nH w (.int .i64 t.n) (.slice ta t.ws.length tc);have jR:=Lib.hid ((af.refl [] w).alloc (.cells #[.int .i64 t.n,.slice ta t.ws.length tc] 122 (0,0)))
 have HBK:Hid (∀ x:World,af [] (w.alloc (.cells #[.int .i64 t.n,.slice ta t.ws.length tc] 122 (0,0))) x->x.cell? ⟨w.heap.size,0,none⟩=some (.int .i64 t.n)/\x.cell? ⟨w.heap.size,1,none⟩=some (.slice ta t.ws.length tc)):=fun x u=>dw u hb
 unfold dI at *;generalize t.ws.length=W at *;generalize t.n=n at *;obtain ⟨b0,b1⟩:=hb;clear h hZ hf ht vg hm hE hhd hft
 go_enter Tryz.func62,Tryz.ntmps62
 go_wp2_with fail;refine (HH.out _ jR.out).mono ?_;rintro e w1 ⟨rfl,hu⟩;have mG:=Lib.hid hu;obtain ⟨d0,d1⟩:=HBK.out _ hu;clear hu b0 b1
 by_cases hh:65535<=hd
 ·have hdc:decide ((65535:Int)<=(hd:Int))=true:=by simp;omega
  have he:E=8:=by rw [HE.out,if_pos hh]
  subst he;clear hh;go_wp2_with fail;go_ret;refine ⟨rfl,?_⟩;rw [HA.out,if_neg (by decide)];exact BN.out _ (jR.out.trans mG.out)
 ·have hdc:decide ((65535:Int)<=(hd:Int))=false:=by simp;omega
  have HHH:=Lib.hid hh;clear hh;have Ag:=heap_alloc_new w1 (.cells #[.int .i64 n,.slice ta W tc] 122 (0,0));have HFC:=Lib.hid (HFT.out _ _ ((jR.out.trans mG.out).alloc _) Ag (jR.out.trans mG.out).size);clear Ag
  cases ft with
  | false =>
   have he:E=9:=by rw [HE.out,if_neg HHH.out];rfl
   subst he;go_wp2_with fail;refine HFC.out.mono ?_;rintro e w2 ⟨rfl,hu⟩;have eF:=Lib.hid (((jR.out.trans mG.out).alloc _).trans hu);clear hu;go_wp2_with fail;go_ret;refine ⟨rfl,?_⟩;rw [HA.out,if_neg (by decide)];exact BN.out _ eF.out
  | true =>
   have he:E=0:=by rw [HE.out,if_neg HHH.out];rfl
   subst he;go_wp2_with fail;refine HFC.out.mono ?_;rintro e w2 ⟨rfl,hu⟩;have eF:=Lib.hid (((jR.out.trans mG.out).alloc _).trans hu);obtain ⟨e0,e1⟩:=HBK.out _ ((mG.out.alloc _).trans hu);clear hu d0 d1;go_wp2_with fail;refine (H1.out _ eF.out).mono ?_;rintro e w3 hQ;obtain ⟨rfl,hmd⟩:=hQ.ex;obtain ⟨p1,q1,q2,q3⟩:=hmd.ex;obtain ⟨_,_,_,_,c4⟩:=q1.cells;have f4:=ax 4 q1.blk
   have HF:Hid (ji m p Z (M.ans t) w (w3.setCell ⟨m,4,none⟩ (.slice none 0 0))):=by
    rw [HA.out];first | rw [if_pos rfl] | rw [if_pos trivial]
    refine ji.pre eF.out (hmd.trans fun p2 h2=>?_);exact ji.Zd h2
   clear hQ hmd q1 q2 q3 e0 e1;go_wp2_with fail;go_ret;exact ⟨rfl,HF.out⟩
theorem jG.less {w:World} {Z X:List Nat} {c:Value} {t:TV} (h:jG w (Z++X) c t):jG w Z c t:=⟨h.ok,h.row,fun k hk hm=>h.fr k hk (List.mem_append.2 (.inl hm))⟩
theorem jG.step {w w7:World} {Z:List Nat} {c:Value} {t:TV} {q q2:bG} {m:Nat} (h:jG w (Z++q.all m) c t) (s2:af (q.all m) w w7) (s3:Sub (q.all m) w (q2.all m)):jG w7 (Z++q2.all m) c t:=by
 have h1:=h.keep s2 fun k hk=>.inl (List.mem_append.2 (.inr hk))
 refine ⟨h1.ok,h1.row,fun k hk hm=>?_⟩
 rcases List.mem_append.1 hm with hm | hm
 ·exact h.fr k hk (List.mem_append.2 (.inl hm))
 ·rcases s3 k hm with h2 | h2
  ·exact h.fr k hk (List.mem_append.2 (.inr h2))
  ·have:=(h.row.lt k hk).2;omega
end Go.Proofs.YtfkopmhpppeheaaGreat
namespace Go.Proofs.YtfkopmhpppeheaaGreat
open Go.ChangeShapes Go.WideShapes Go.ChangeAt Go.RowKit
theorem V4:ownKnob Tryz.prog.godebug=none:=by kernel_rfl
theorem Dz:laidOutB Tryz.prog=true:=by kernel_rfl
theorem PK:Tryz.prog.cellsOf 3=1:=by kernel_rfl
theorem Ze:Tryz.prog.cellsOf 90=1:=by kernel_rfl
theorem wf_u64 {x:Int} (h:(Lit.int .u64 x).wf=true):jU x:=by
 simp only [Lit.wf,Bool.and_eq_true,decide_eq_true_eq] at h
 have e1:IntKind.u64.min=0:=rfl;have e2:IntKind.u64.max=18446744073709551615:=rfl;unfold jU;omega
end Go.Proofs.YtfkopmhpppeheaaGreat
namespace Go.Proofs.YtfkopmhpppeheaaGreat
open Go.RowKit Go.Maps Go.ChangeMaps Go.WideShapes
theorem jG.foreign {w w':World} {Z S:List Nat} {c:Value} {t:TV} (h:jG w Z c t) (u:af S w w') (hS:∀ k,k∈S->∃ cs e fr,w.heap[k]?=some (.cells cs e fr)/\90≠e):jG w' Z c t :=
 ⟨h.ok,ai h.row fun k hk=>u.block k (h.row.lt k hk).2 fun hm=>by
  obtain ⟨cs,e,fr,h1,h2⟩:=hS k hm
  exact pG h.row h1 h2 hk,h.fr⟩
structure Em (w:World) (n0 a b m:Nat) (rv tv:Value) (K:KV) (F:List Nat) (M:MV) (p:bG) (refs:List Nat) (tabs:List TV):Prop where
 blk:w.heap[a]?=some (.cells #[.pointer (some ⟨b,0,none⟩),.pointer (some ⟨m,0,none⟩),rv,tv] 44 (0,0))
 mem:Ak w b m rv tv K F M p refs tabs
 na:a∉F/\a∉p.all m
 lo:∀ k,(k∈F\/k∈p.all m\/k=a\/rv.ownBlock=some k\/tv.ownBlock=some k)->n0<=k
 bl:n0<=w.heap.size
theorem Em.keep0 {w w':World} {n0 a b m:Nat} {rv tv:Value} {K:KV} {F:List Nat} {M:MV} {p:bG} {refs:List Nat} {tabs:List TV} (h:Em w n0 a b m rv tv K F M p refs tabs) (u:af [] w w'):Em w' n0 a b m rv tv K F M p refs tabs :=
 ⟨by rw [u.block a (ah h.blk) (by simp)];exact h.blk,h.mem.keep0 u,h.na,h.lo,Nat.le_trans h.bl u.size⟩
theorem Em.kernel {w w1:World} {n0 a b m:Nat} {rv tv:Value} {K K1:KV} {F F1:List Nat} {M:MV} {p:bG} {refs:List Nat} {tabs:List TV} (h:Em w n0 a b m rv tv K F M p refs tabs) (hk:aZ w1 b K1 F1) (u:af F w w1) (s:Sub F w F1):Em w1 n0 a b m rv tv K1 F1 M p refs tabs/\wQ n0 w w1:=by
 have mO:=h.bl;refine ⟨⟨by rw [u.block a (ah h.blk) h.na.1];exact h.blk,h.mem.kernel hk u s,⟨fun hm=>?_,h.na.2⟩,fun k hk=>?_,Nat.le_trans h.bl u.size⟩,wQ.of u fun k hk=>h.lo k (.inl hk)⟩
 ·rcases s a hm with h1 | h1
  ·exact h.na.1 h1
  ·have:=ah h.blk;omega
 ·rcases hk with hk | hk
  ·rcases s k hk with h1 | h1
   ·exact h.lo k (.inl h1)
   ·omega
  ·exact h.lo k (.inr hk)
theorem Em.cells {w:World} {n0 a b m:Nat} {rv tv:Value} {K:KV} {F:List Nat} {M:MV} {p:bG} {refs:List Nat} {tabs:List TV} (h:Em w n0 a b m rv tv K F M p refs tabs) :
  w.cell? ⟨a,0,none⟩=some (.pointer (some ⟨b,0,none⟩))/\w.cell? ⟨a,1,none⟩=some (.pointer (some ⟨m,0,none⟩))/\w.cell? ⟨a,2,none⟩=some rv/\w.cell? ⟨a,3,none⟩=some tv :=
 ⟨ae h.blk rfl,ae h.blk rfl,ae h.blk rfl,ae h.blk rfl⟩
theorem Em.push {w w6:World} {n0 a b m g1 oD g2 jc r:Nat} {rv tv c:Value} {K:KV} {F:List Nat} {M:MV} {p:bG} {refs:List Nat} {tabs:List TV} {t:TV} {cs:List Value} (h:Em w n0 a b m rv tv K F M p refs tabs)
  (u:af (rv.ownBlock.toList++tv.ownBlock.toList) w w6) (e1:cs.length=tabs.length) (e3:∀ (i:Nat) (t:TV) (c:Value),tabs[i]?=some t->cs[i]?=some c->jG w (F++p.all m) c t)
  (o1:w6.ownsRow 0 77 1 (.slice (some ⟨g1,0,none⟩) (refs.length+1) oD) (refs.length+1) (aI refs++[.int .u32 r]))
  (o2:w6.ownsRow 0 122 2 (.slice (some ⟨g2,0,none⟩) (tabs.length+1) jc) (tabs.length+1) (fV tabs cs++[.int .i64 t.n,c]))
  (at1:rv.ownBlock=some g1\/w.heap.size<=g1) (at2:tv.ownBlock=some g2\/w.heap.size<=g2) (ht:jG w (F++p.all m) c t) :
  Em ((w6.setCell ⟨a,2,none⟩ (.slice (some ⟨g1,0,none⟩) (refs.length+1) oD)).setCell ⟨a,3,none⟩ (.slice (some ⟨g2,0,none⟩) (tabs.length+1) jc)) n0 a b m (.slice (some ⟨g1,0,none⟩) (refs.length+1) oD) (.slice (some ⟨g2,0,none⟩) (tabs.length+1) jc) K F M p (refs++[r]) (tabs++[t]) /\
  wQ n0 w ((w6.setCell ⟨a,2,none⟩ (.slice (some ⟨g1,0,none⟩) (refs.length+1) oD)).setCell ⟨a,3,none⟩ (.slice (some ⟨g2,0,none⟩) (tabs.length+1) jc)):=by
 have hz:=h.mem.z;have hal:=ah h.blk;obtain ⟨xs,hxs⟩:=h.mem.tt.row;have na1:=pG h.mem.rr h.blk (by decide);have na2:=pG hxs h.blk (by decide)
 have PE:w6.heap[a]?=_:=(u.block a hal fun hm=>by
  rcases List.mem_append.1 hm with hm | hm
  ·exact na1 (by simpa using hm)
  ·exact na2 (by simpa using hm)).trans h.blk
 have u2:af (a::(rv.ownBlock.toList++tv.ownBlock.toList)) w ((w6.setCell ⟨a,2,none⟩ (.slice (some ⟨g1,0,none⟩) (refs.length+1) oD)).setCell ⟨a,3,none⟩ (.slice (some ⟨g2,0,none⟩) (tabs.length+1) jc)) :=
  ((u.mono (fun k hk=>List.mem_cons_of_mem _ hk)).setCell (p:=⟨a,2,none⟩) (.inl (by simp)) _).setCell (p:=⟨a,3,none⟩) (.inl (by simp)) _
 have hS:∀ k,k∈a::(rv.ownBlock.toList++tv.ownBlock.toList)->k=a\/rv.ownBlock=some k\/tv.ownBlock=some k:=fun k hk=>by
  rcases List.mem_cons.1 hk with h | h
  ·exact .inl h
  ·rcases List.mem_append.1 h with h | h
   ·exact .inr (.inl (by simpa using h))
   ·exact .inr (.inr (by simpa using h))
 have hSF:∀ k,k∈F++p.all m->k∉a::(rv.ownBlock.toList++tv.ownBlock.toList):=fun k hk hm=>by
  rcases hS k hm with rfl | h1 | h1
  ·rcases List.mem_append.1 hk with h2 | h2
   ·exact h.na.1 h2
   ·exact h.na.2 h2
  ·rcases List.mem_append.1 hk with h2 | h2
   ·exact (h.mem.rf k h1).1 h2
   ·exact (h.mem.rf k h1).2 h2
  ·exact h.mem.tt.fr k h1 hk
 have far:∀ k,w.heap.size<=k->k∉F++p.all m:=fun k hk hm=>by have:=hz k hm;omega
 have g1n:∀ k,g1=k->k∉F++p.all m:=fun k e hm=>by
  subst e
  rcases at1 with h1 | h1
  ·exact hSF g1 hm (by simp [h1])
  ·exact far g1 h1 hm
 have g2n:∀ k,g2=k->k∉F++p.all m:=fun k e hm=>by
  subst e
  rcases at2 with h1 | h1
  ·exact hSF g2 hm (by simp [h1])
  ·exact far g2 h1 hm
 have own:∀ {g k n c:Nat},(Value.slice (some ⟨g,0,none⟩) n c).ownBlock=some k->g=k:=fun {g k n c} h=>by simpa [Value.ownBlock] using h
 have V5:∀ {d:Value} {s:TV},jG w (F++p.all m) d s->jG ((w6.setCell ⟨a,2,none⟩ (.slice (some ⟨g1,0,none⟩) (refs.length+1) oD)).setCell ⟨a,3,none⟩ (.slice (some ⟨g2,0,none⟩) (tabs.length+1) jc)) (F++p.all m) d s:=fun {d s} hd =>
  ⟨hd.ok,ai hd.row fun k hk=>u2.block k (hd.row.lt k hk).2 fun hm=>by
   rcases hS k hm with rfl | h1 | h1
   ·exact pG hd.row h.blk (by decide) hk
   ·exact CZ hd.row h.mem.rr (by decide) hk h1
   ·exact CZ hd.row hxs (by decide) hk h1,hd.fr⟩
 have b1:=aB (j:=3) (aB (j:=2) PE (.slice (some ⟨g1,0,none⟩) (refs.length+1) oD)) (.slice (some ⟨g2,0,none⟩) (tabs.length+1) jc);have q1:=pG o1 PE (by decide);have q2:=pG o2 PE (by decide);have h0:=h.lo;have mO:=h.bl
 have agk:fH ((w6.setCell ⟨a,2,none⟩ (.slice (some ⟨g1,0,none⟩) (refs.length+1) oD)).setCell ⟨a,3,none⟩ (.slice (some ⟨g2,0,none⟩) (tabs.length+1) jc)) m M p (F++p.all m):=by
  obtain ⟨ds,d1,d2,d3⟩:=h.mem.mod.hs.ex
  have np:∀ k,k∈p.all m->k∉a::(rv.ownBlock.toList++tv.ownBlock.toList):=fun k hk=>hSF k (List.mem_append.2 (.inr hk))
  exact ⟨by rw [u2.block m (ah h.mem.mod.blk) (np m (bG.mem.2 (.inl rfl)))];exact h.mem.mod.blk,ai h.mem.mod.os fun k hk=>u2.block k (h.mem.mod.os.lt k hk).2 (np k (bG.mem.2 (.inr (.inl hk)))),
   ⟨ds,d1,ai d2 fun k hk=>u2.block k (d2.lt k hk).2 (np k (bG.mem.2 (.inr (.inr (.inl hk))))),fun i t c hi hc=>V5 (d3 i t c hi hc)⟩,
   ai h.mem.mod.ts fun k hk=>u2.block k (h.mem.mod.ts.lt k hk).2 (np k (bG.mem.2 (.inr (.inr (.inr hk))))),h.mem.mod.ne,h.mem.mod.sz⟩
 refine ⟨⟨b1,⟨h.mem.ker.upd u2 fun k hk=>hSF k (List.mem_append.2 (.inl hk)),agk,h.mem.dj,?_,fun k hk=>?_,⟨⟨cs++[c],by simp [e1],?_,fun i s d hs hd=>?_⟩,fun k hk=>g2n k (own hk)⟩⟩,h.na,fun k hk=>?_,Nat.le_trans mO u2.size⟩,?_⟩
 ·have:=bf (bf o1 (a:=⟨a,2,none⟩) (fun e=>q1 e.symm) (.slice (some ⟨g1,0,none⟩) (refs.length+1) oD)) (a:=⟨a,3,none⟩) (fun e=>q1 e.symm) (.slice (some ⟨g2,0,none⟩) (tabs.length+1) jc)
  rw [List.length_append,List.length_singleton];unfold aI at this ⊢;rw [List.map_append];exact this
 ·have:=g1n k (own hk)
  exact ⟨fun h=>this (List.mem_append.2 (.inl h)),fun h=>this (List.mem_append.2 (.inr h))⟩
 ·rw [zC e1,List.length_append,List.length_singleton]
  exact bf (bf o2 (a:=⟨a,2,none⟩) (fun e=>q2 e.symm) (.slice (some ⟨g1,0,none⟩) (refs.length+1) oD)) (a:=⟨a,3,none⟩) (fun e=>q2 e.symm) (.slice (some ⟨g2,0,none⟩) (tabs.length+1) jc)
 ·by_cases hi:i<tabs.length
  ·rw [List.getElem?_append_left hi] at hs
   rw [List.getElem?_append_left (by omega)] at hd;exact V5 (e3 i s d hs hd)
  ·rw [List.getElem?_append_right (by omega)] at hs
   rw [List.getElem?_append_right (by omega),e1] at hd
   cases h3:i-tabs.length with
   | zero=>rw [h3] at hs hd;simp at hs hd;subst hs hd;exact V5 ht
   | succ j=>rw [h3] at hs;simp at hs
 ·rcases hk with hk | hk | hk | hk | hk
  ·exact h0 k (.inl hk)
  ·exact h0 k (.inr (.inl hk))
  ·exact h0 k (.inr (.inr (.inl hk)))
  ·rw [<- own hk]
   rcases at1 with h1 | h1
   ·exact h0 g1 (.inr (.inr (.inr (.inl h1))))
   ·omega
  ·rw [<- own hk]
   rcases at2 with h1 | h1
   ·exact h0 g2 (.inr (.inr (.inr (.inr h1))))
   ·omega
 ·refine wQ.of u2 fun k hk=>?_
  rcases hS k hk with rfl | h1 | h1
  ·exact h0 k (.inr (.inr (.inl rfl)))
  ·exact h0 k (.inr (.inr (.inr (.inl h1))))
  ·exact h0 k (.inr (.inr (.inr (.inr h1))))
structure x9 (K:KV) (M:MV) (refs:List Nat) (tabs:List TV):Prop where
 km:KM K M
 lr:refs.length=tabs.length
 rb:refs.length<=40
 ok:∀ t,t∈tabs->t.Ok/\t.n=K.vars
 nm:∀ (i r:Nat) (t:TV),refs[i]?=some r->tabs[i]?=some t->Names K r t
def DC (K:KV) (refs:List Nat):Prop:=∀ x,2<=x->K.hold x=refs.count x
theorem DC.le {K:KV} {refs:List Nat} (h:DC K refs) (hk:K.Ok) (x:Nat):K.hold x<=refs.length:=by
 by_cases hx:2<=x
 ·rw [h x hx];exact List.count_le_length
 ·by_cases h0:K.hold x=0
  ·omega
  ·have:=(hk.wf.ht _ (Nat.pos_of_ne_zero h0)).1;omega
end Go.Proofs.YtfkopmhpppeheaaGreat
namespace Go.Proofs.YtfkopmhpppeheaaGreat
theorem dN {P:Program} {ops:Array Oper} {Q:Exit->Act->World->Prop} {md:Region.Mode} {S E:World->Prop} {Ks:List Nat} (i:Nat) {oi:Oper} {v:Value} {fuel:Nat} {L:Array Bool} {a a':Act} {w:World} (hi:ops[i]?=some oi)
  (hS:S w) (hE:mX L Ks=true->E w) (h:jF P md ops Q S E Ks fuel (L.setIfInBounds i true) a' w)
  (hs:Region.noSelect ops=true:=by kernel_rfl) (hf:Region.free md ops L i=true:=by kernel_rfl) (hr:(Region.ready md ops L).contains i=true:=by kernel_rfl) (Sm:Ks.contains i=false:=by kernel_rfl)
  (hQ:∀ c a w,Q (.panic c) (a.put oi.dst v) w->Q (.panic c) a w:=by exact fun _ _ _ h=>h)
  (hy:YieldsIf P ops S oi v a:=by exact Or.inl ⟨by rfl,by intro x QC;(try dsimp only at QC);go_simp;try with_reducible rfl⟩)
  (hp:a.put oi.dst v=a':=by ((try simp only [Act.put,List.getElem_toArray,List.getElem_cons_succ,List.getElem_cons_zero,List.setIfInBounds_toArray,List.set_cons_zero,List.set_cons_succ]);try exact rfl)):jF P md ops Q S E Ks (fuel+1) L a w:=by
 subst hp;exact dV hi hs hf hr Sm hQ hy hS hE h
end Go.Proofs.YtfkopmhpppeheaaGreat
