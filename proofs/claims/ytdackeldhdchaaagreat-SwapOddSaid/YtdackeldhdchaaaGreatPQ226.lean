import Derived.Test.YtdackeldhdchaaaGreatPQ225
import Derived.Test.YtdackeldhdchaaaGreatPQ27
import Derived.Test.YtdackeldhdchaaaGreatPQ214
import Derived.Test.YtdackeldhdchaaaGreatPQ216
import Derived.Test.YtdackeldhdchaaaGreatPQ21
import Derived.Deep.QuietTactic
import Derived.WalkKit
import Derived.BigQuiet
set_option maxRecDepth 100000
set_option maxHeartbeats 3200000
namespace Go.Proofs.YtdackeldhdchaaaGreat
open Go.RowKit Go.Maps Go.ChangeMaps Go.WideShapes
theorem agq.notrail {m:Nat} {M:MV} {p:acd} {Z:List Nat} {w:World} (h:aef w m M p Z):agq m p Z { M with trail:=[] } w (w.setCell ⟨m,4,none⟩ (.slice none 0 0)):=by
 have u:Upd [m] w (w.setCell ⟨m,4,none⟩ (.slice none 0 0)):=(Upd.refl _ w).setCell (p:=⟨m,4,none⟩) (.inl (by simp)) _;have hmZ:m∈Z:=h.sz _ (acd.mem.2 (.inl rfl))
 have key:∀ (t:TypeId),t≠53->(∃ cs fr,w.heap[m]?=some (.cells cs t fr))->False:=by
  rintro t he ⟨cs,fr,h1⟩;rw [h.blk] at h1
  injection h1 with h1
  injection h1 with _ h1 _
  exact he h1.symm
 have arN:Sub Z w (Z++acd.all ⟨p.ov,p.hv,.slice none 0 0⟩ m):=fun k hk=>by
  rcases List.mem_append.1 hk with hk | hk
  ·exact .inl hk
  ·rcases acd.mem.1 hk with rfl | h1 | h1 | h1
   ·exact .inl hmZ
   ·exact .inl (h.sz _ (acd.mem.2 (.inr (.inl h1))))
   ·exact .inl (h.sz _ (acd.mem.2 (.inr (.inr (.inl h1)))))
   ·simp [Value.ownBlock] at h1
 refine ⟨⟨p.ov,p.hv,.slice none 0 0⟩,⟨abV h.blk _,aaX h.os fun k hk=>u.block k (h.os.lt k hk).2 fun hm=>?_,?_,World.ownsRow_nil _ _ _ _,fun k _ hk=>by simp [Value.ownBlock] at hk,fun k hk=>List.mem_append.2 (.inr hk)⟩,u.mono (fun k hk=>by simp at hk;subst hk;exact acd.mem.2 (.inl rfl)),fun k hk=>.inl ?_⟩
 ·simp at hm;subst hm;exact key _ (by decide) (acE h.os hk)
 ·refine (h.hs.apart arN).keep u (fun k hk=>?_) fun k hk hm=>?_
  ·simp at hk;subst hk;exact .inl (List.mem_append.2 (.inl hmZ))
  ·simp at hm;subst hm
   obtain ⟨xs,hr⟩:=h.hs.row;exact key _ (by decide) (acE hr hk)
 ·rcases acd.mem.1 hk with rfl | h1 | h1 | h1
  ·exact acd.mem.2 (.inl rfl)
  ·exact acd.mem.2 (.inr (.inl h1))
  ·exact acd.mem.2 (.inr (.inr (.inl h1)))
  ·simp [Value.ownBlock] at h1
theorem agq.pre {m:Nat} {M:MV} {p:acd} {Z:List Nat} {w w1 w2:World} (u:Upd [] w w1) (h:agq m p Z M w1 w2):agq m p Z M w w2:=by
 obtain ⟨p1,h1,u1,s1⟩:=h.ex;refine ⟨p1,h1,(u.mono (by simp)).trans u1,fun k hk=>?_⟩
 rcases s1 k hk with h | h
 ·exact .inl h
 ·right;have:=u.size;omega
theorem aCF (m:Nat) (M:MV) (p:acd) (Z:List Nat) (c:Value) (t:TV) (w:World) (h:aef w m M p Z) (hZ:∀ k,k∈Z->k<w.heap.size) (hf:M.Fit) (ht:TIn w Z c t) (htn:t.n=M.n) (hm:∀ u,u∈M.held->u.2<=65535) :
  Calls Tryz.prog 53 #[.pointer (some ⟨m,0,none⟩),aeH t c] w fun e w'=>e=.returned (.int .i64 (M.ansE t))/\agq m p Z (M.ans t) w w':=by
 obtain ⟨ta,tc,rfl,_⟩:=ahV ht.row
 have HH:Hid (∀ z,Upd [] w z->Calls Tryz.prog 118 #[.pointer (some ⟨m,0,none⟩),aeH t (.slice ta t.ws.length tc)] z fun e w'=>e=.returned (.int .i64 (M.holds t:Nat))/\Upd [] z w'):=fun z u =>
  ayB m M p Z _ t z (h.keep0 u) (ht.keep0 u) (by have:=hf.hl;omega)
 have HFT:Hid (∀ (x:World) (B:Nat),Upd [] w x->x.heap[B]?=some (.cells #[.int .i64 t.n,.slice ta t.ws.length tc] 121 (0,0))->w.heap.size<=B->Calls Tryz.prog 119 #[.pointer (some ⟨m,0,none⟩),.slice (some ⟨B,0,none⟩) 1 1] x fun e w'=>e=.returned (.bool (M.fits [t]))/\Upd [] x w'):=fun x B u hB hs =>
  aFm m 0 M p Z _ [t] x (h.keep0 u) (fun k hk=>Nat.lt_of_lt_of_le (hZ k hk) u.size) hf (TLs.one hB (ht.keep0 u) (Nat.zero_le _) (fun hk=>by have:=hZ _ hk;omega)) (fun s hs=>by simp at hs;subst hs;exact htn) (by simp)
 have H1:Hid (∀ z,Upd [] w z->Calls Tryz.prog 120 #[.pointer (some ⟨m,0,none⟩),aeH t (.slice ta t.ws.length tc)] z fun e w'=>aJj m M p Z t z e w'):=fun z u =>
  aFp m M p Z _ t z (h.keep0 u) (fun k hk=>Nat.lt_of_lt_of_le (hZ k hk) u.size) (ht.keep0 u) (by have:=hf.hl;omega) hm
 have HSM:Hid (∀ z,Upd [] w z->agq m p Z M w z):=fun z u=>agq.same h u
 obtain ⟨E,hE⟩ : ∃ E,M.ansE t=E:=⟨_,rfl⟩;obtain ⟨hd,hhd⟩ : ∃ hd,M.holds t=hd:=⟨_,rfl⟩;obtain ⟨ft,hft⟩ : ∃ ft,M.fits [t]=ft:=⟨_,rfl⟩
 have HE:Hid (E=if 65535<=hd then 8 else if ft then 0 else 9):=by show _=_;rw [<- hE];unfold MV.ansE;rw [hhd,hft]
 have HA:Hid (M.ans t=if E=0 then { M.hold1 t with trail:=[] } else M):=by show _=_;unfold MV.ans;rw [hE]
 rw [hE];rw [hhd] at HH;rw [hft] at HFT;have HB:=Lib.hid (heap_alloc_new w (.cells #[.int .i64 t.n,.slice ta t.ws.length tc] 121 (0,0)));have hb:=alC w (.int .i64 t.n) (.slice ta t.ws.length tc);have HU0:=Lib.hid ((Upd.refl [] w).alloc (.cells #[.int .i64 t.n,.slice ta t.ws.length tc] 121 (0,0)))
 have HBK:Hid (∀ x:World,Upd [] (w.alloc (.cells #[.int .i64 t.n,.slice ta t.ws.length tc] 121 (0,0))) x->x.cell? ⟨w.heap.size,0,none⟩=some (.int .i64 t.n)/\x.cell? ⟨w.heap.size,1,none⟩=some (.slice ta t.ws.length tc)):=fun x u=>aer u hb
 unfold aeH at *;generalize t.ws.length=W at *;generalize t.n=n at *;obtain ⟨b0,b1⟩:=hb;clear h hZ hf ht htn hm hE hhd hft
 go_enter Tryz.func53,Tryz.ntmps53
 go_wp2_with fail;refine (HH.out _ HU0.out).mono ?_;rintro e w1 ⟨rfl,hu⟩;have HU1:=Lib.hid hu;obtain ⟨d0,d1⟩:=HBK.out _ hu;clear hu b0 b1
 by_cases hh:65535<=hd
 ·have hdc:decide ((65535:Int)<=(hd:Int))=true:=by simp;omega
  have he:E=8:=by rw [HE.out,if_pos hh]
  subst he;clear hh;go_wp2_with fail;go_ret;refine ⟨rfl,?_⟩;rw [HA.out,if_neg (by decide)];exact HSM.out _ (HU0.out.trans HU1.out)
 ·have hdc:decide ((65535:Int)<=(hd:Int))=false:=by simp;omega
  have HHH:=Lib.hid hh;clear hh;have hb1:=heap_alloc_new w1 (.cells #[.int .i64 n,.slice ta W tc] 121 (0,0));have HFC:=Lib.hid (HFT.out _ _ ((HU0.out.trans HU1.out).alloc _) hb1 (HU0.out.trans HU1.out).size);clear hb1
  cases ft with
  | false =>
   have he:E=9:=by rw [HE.out,if_neg HHH.out];rfl
   subst he;go_wp2_with fail;refine HFC.out.mono ?_;rintro e w2 ⟨rfl,hu⟩;have HU2:=Lib.hid (((HU0.out.trans HU1.out).alloc _).trans hu);clear hu;go_wp2_with fail;go_ret;refine ⟨rfl,?_⟩;rw [HA.out,if_neg (by decide)];exact HSM.out _ HU2.out
  | true =>
   have he:E=0:=by rw [HE.out,if_neg HHH.out];rfl
   subst he;go_wp2_with fail;refine HFC.out.mono ?_;rintro e w2 ⟨rfl,hu⟩;have HU2:=Lib.hid (((HU0.out.trans HU1.out).alloc _).trans hu);obtain ⟨e0,e1⟩:=HBK.out _ ((HU1.out.alloc _).trans hu);clear hu d0 d1;go_wp2_with fail;refine (H1.out _ HU2.out).mono ?_;rintro e w3 hQ;obtain ⟨rfl,hmd⟩:=hQ.ex;obtain ⟨p1,q1,q2,q3⟩:=hmd.ex;obtain ⟨_,_,_,_,c4⟩:=q1.cells;have f4:=abq 4 q1.blk
   have HF:Hid (agq m p Z (M.ans t) w (w3.setCell ⟨m,4,none⟩ (.slice none 0 0))):=by
    rw [HA.out];first | rw [if_pos rfl] | rw [if_pos trivial]
    refine agq.pre HU2.out (hmd.trans fun p2 h2=>?_);exact agq.notrail h2
   clear hQ hmd q1 q2 q3 e0 e1;go_wp2_with fail;go_ret;exact ⟨rfl,HF.out⟩
theorem aef.not_ty {w:World} {m k:Nat} {M:MV} {p:acd} {Z:List Nat} {C:Array Value} {e:TypeId} {fr:Nat × Nat} (h:aef w m M p Z) (hb:w.heap[k]?=some (.cells C e fr)) (h1:53≠e) (h2:3≠e) (h3:255≠e):k∉p.all m:=by
 have key:∀ (t:TypeId),t≠e->(∃ cs fr,w.heap[k]?=some (.cells cs t fr))->False:=by
  rintro t he ⟨cs,fr,h1⟩;rw [hb] at h1
  injection h1 with h1
  injection h1 with _ h1 _
  exact he h1.symm
 intro hk
 rcases acd.mem.1 hk with rfl | h4 | h4 | h4
 ·exact key _ h1 ⟨_,_,h.blk⟩
 ·exact key _ h2 (acE h.os h4)
 ·obtain ⟨xs,hr⟩:=h.hs.row
  exact key _ h3 (acE hr h4)
 ·exact key _ h2 (acE h.ts h4)
theorem TIn.less {w:World} {Z X:List Nat} {c:Value} {t:TV} (h:TIn w (Z++X) c t) (h0:∃ z,z∈Z):TIn w Z c t:=⟨h.ok,h.row.other h0 (fun _ hk=>.inl (List.mem_append.2 (.inl hk))),fun k hk hm=>h.fr k hk (List.mem_append.2 (.inl hm))⟩
theorem TIn.foreign {w w':World} {Z S:List Nat} {c:Value} {t:TV} (h:TIn w Z c t) (u:Upd S w w') (hS:∀ k,k∈S->∃ cs e fr,w.heap[k]?=some (.cells cs e fr)/\90≠e) (hz:∀ k,k∈S->(∃ z,z∈Z)->∃ z,z∈Z/\z<=k:=by exact fun _ _ h=>absurd h (by simp)):TIn w' Z c t :=
 ⟨h.ok,h.row.kp fun k hk=>u.block k (h.row.lt k hk).2 fun hm=>by
  obtain ⟨cs,e,fr,h1,h2⟩:=hS k hm
  exact h.nb h1 h2 (hz k hm) hk,h.fr⟩
theorem TIn.step {w w7:World} {Z:List Nat} {c:Value} {t:TV} {q q2:acd} {m:Nat} (h:TIn w (Z++q.all m) c t) (s2:Upd (q.all m) w w7) (s3:Sub (q.all m) w (q2.all m)):TIn w7 (Z++q2.all m) c t:=by
 have h1:=h.keep s2 fun k hk=>.inl (List.mem_append.2 (.inr hk))
 have h2:aq6 w (Z++q2.all m) c t.ws.length (aff t.ws):=h.row.other ⟨m,List.mem_append.2 (.inr (acd.mem.2 (.inl rfl)))⟩ fun k hk=>by
  rcases List.mem_append.1 hk with hk | hk
  ·exact .inl (List.mem_append.2 (.inl hk))
  ·exact (s3 k hk).imp (fun h=>List.mem_append.2 (.inr h)) id
 refine ⟨h1.ok,h2.kp (fun k hk=>s2.block k (h.row.lt k hk).2 fun hm=>h.fr k hk (List.mem_append.2 (.inr hm))),fun k hk hm=>?_⟩
 rcases List.mem_append.1 hm with hm | hm
 ·exact h.fr k hk (List.mem_append.2 (.inl hm))
 ·rcases s3 k hm with h2 | h2
  ·exact h.fr k hk (List.mem_append.2 (.inr h2))
  ·have:=(h.row.lt k hk).2;omega
structure PIn (w:World) (n0 a b m:Nat) (rv tv:Value) (K:KV) (F:List Nat) (M:MV) (p:acd) (refs:List Nat) (tabs:List TV):Prop where
 blk:w.heap[a]?=some (.cells #[.pointer (some ⟨b,0,none⟩),.pointer (some ⟨m,0,none⟩),rv,tv] 44 (0,0))
 mem:axi w b m rv tv K F M p refs tabs
 na:a∉F/\a∉p.all m
 lo:∀ k,(k∈F\/k∈p.all m\/k=a\/rv.ownBlock=some k\/tv.ownBlock=some k)->n0<=k
 bl:n0<=w.heap.size
 bk:∀ k,(k=a\/rv.ownBlock=some k\/tv.ownBlock=some k)->b<=k
theorem PIn.keep0 {w w':World} {n0 a b m:Nat} {rv tv:Value} {K:KV} {F:List Nat} {M:MV} {p:acd} {refs:List Nat} {tabs:List TV} (h:PIn w n0 a b m rv tv K F M p refs tabs) (u:Upd [] w w'):PIn w' n0 a b m rv tv K F M p refs tabs :=
 ⟨by rw [u.block a (aa4 h.blk) (by simp)];exact h.blk,h.mem.keep0 u,h.na,h.lo,Nat.le_trans h.bl u.size,h.bk⟩
theorem PIn.kernel {w w1:World} {n0 a b m:Nat} {rv tv:Value} {K K1:KV} {F F1:List Nat} {M:MV} {p:acd} {refs:List Nat} {tabs:List TV} (h:PIn w n0 a b m rv tv K F M p refs tabs) (hk:ad1 w1 b K1 F1) (u:Upd F w w1) (s:Sub F w F1):PIn w1 n0 a b m rv tv K1 F1 M p refs tabs/\Fro n0 w w1:=by
 have hbl:=h.bl;refine ⟨⟨by rw [u.block a (aa4 h.blk) h.na.1];exact h.blk,h.mem.kernel hk u s,⟨fun hm=>?_,h.na.2⟩,fun k hk=>?_,Nat.le_trans h.bl u.size,h.bk⟩,Fro.of u fun k hk=>h.lo k (.inl hk)⟩
 ·rcases s a hm with h1 | h1
  ·exact h.na.1 h1
  ·have:=aa4 h.blk;omega
 ·rcases hk with hk | hk
  ·rcases s k hk with h1 | h1
   ·exact h.lo k (.inl h1)
   ·omega
  ·exact h.lo k (.inr hk)
theorem PIn.cells {w:World} {n0 a b m:Nat} {rv tv:Value} {K:KV} {F:List Nat} {M:MV} {p:acd} {refs:List Nat} {tabs:List TV} (h:PIn w n0 a b m rv tv K F M p refs tabs) :
  w.cell? ⟨a,0,none⟩=some (.pointer (some ⟨b,0,none⟩))/\w.cell? ⟨a,1,none⟩=some (.pointer (some ⟨m,0,none⟩))/\w.cell? ⟨a,2,none⟩=some rv/\w.cell? ⟨a,3,none⟩=some tv :=
 ⟨aac h.blk rfl,aac h.blk rfl,aac h.blk rfl,aac h.blk rfl⟩
theorem PIn.push {w w6:World} {n0 a b m g1 anz g2 aiP r:Nat} {rv tv c:Value} {K:KV} {F:List Nat} {M:MV} {p:acd} {refs:List Nat} {tabs:List TV} {t:TV} {cs:List Value} (h:PIn w n0 a b m rv tv K F M p refs tabs)
  (u:Upd (rv.ownBlock.toList++tv.ownBlock.toList) w w6) (e1:cs.length=tabs.length) (e3:∀ (i:Nat) (t:TV) (c:Value),tabs[i]?=some t->cs[i]?=some c->TIn w (F++p.all m) c t)
  (o1:w6.ownsRow 0 77 1 (.slice (some ⟨g1,0,none⟩) (refs.length+1) anz) (refs.length+1) (ach refs++[.int .u32 r]))
  (o2:w6.ownsRow 0 121 2 (.slice (some ⟨g2,0,none⟩) (tabs.length+1) aiP) (tabs.length+1) (agp tabs cs++[.int .i64 t.n,c]))
  (at1:rv.ownBlock=some g1\/w.heap.size<=g1) (at2:tv.ownBlock=some g2\/w.heap.size<=g2) (ht:TIn w (F++p.all m) c t) :
  PIn ((w6.setCell ⟨a,2,none⟩ (.slice (some ⟨g1,0,none⟩) (refs.length+1) anz)).setCell ⟨a,3,none⟩ (.slice (some ⟨g2,0,none⟩) (tabs.length+1) aiP)) n0 a b m (.slice (some ⟨g1,0,none⟩) (refs.length+1) anz) (.slice (some ⟨g2,0,none⟩) (tabs.length+1) aiP) K F M p (refs++[r]) (tabs++[t]) /\
  Fro n0 w ((w6.setCell ⟨a,2,none⟩ (.slice (some ⟨g1,0,none⟩) (refs.length+1) anz)).setCell ⟨a,3,none⟩ (.slice (some ⟨g2,0,none⟩) (tabs.length+1) aiP)):=by
 have hz:=h.mem.z;have hal:=aa4 h.blk;have hbF:b∈F:=h.mem.ker.bF
 have hzz:∀ k,(k=a\/rv.ownBlock=some k\/tv.ownBlock=some k)->(∃ z,z∈F++p.all m)->∃ z,z∈F++p.all m/\z<=k:=fun k hk _=>⟨b,List.mem_append.2 (.inl hbF),h.bk k hk⟩
 have hbw:=h.mem.ker.lt b hbF;have hbk:=h.bk;obtain ⟨xs,hxs⟩:=h.mem.tt.row;have na1:=aq1 h.mem.rr h.blk (by decide);have na2:=aq1 hxs h.blk (by decide)
 have aGO:w6.heap[a]?=_:=(u.block a hal fun hm=>by
  rcases List.mem_append.1 hm with hm | hm
  ·exact na1 (by simpa using hm)
  ·exact na2 (by simpa using hm)).trans h.blk
 have u2:Upd (a::(rv.ownBlock.toList++tv.ownBlock.toList)) w ((w6.setCell ⟨a,2,none⟩ (.slice (some ⟨g1,0,none⟩) (refs.length+1) anz)).setCell ⟨a,3,none⟩ (.slice (some ⟨g2,0,none⟩) (tabs.length+1) aiP)) :=
  ((u.mono (fun k hk=>List.mem_cons_of_mem _ hk)).setCell (p:=⟨a,2,none⟩) (.inl (by simp)) _).setCell (p:=⟨a,3,none⟩) (.inl (by simp)) _
 have hS:∀ k,k∈a::(rv.ownBlock.toList++tv.ownBlock.toList)->k=a\/rv.ownBlock=some k\/tv.ownBlock=some k:=fun k hk=>by
  rcases List.mem_cons.1 hk with h | h
  ·exact .inl h
  ·rcases List.mem_append.1 h with h | h
   ·exact .inr (.inl (by simpa using h))
   ·exact .inr (.inr (by simpa using h))
 have hSF:∀ k,k∈F++p.all m->k∉a::(rv.ownBlock.toList++tv.ownBlock.toList):=fun k hk hm=>by
  rcases hS k hm with rfl | h1 | h1
  ·rcases List.mem_append.1 hk with h2 | h2
   ·exact h.na.1 h2
   ·exact h.na.2 h2
  ·rcases List.mem_append.1 hk with h2 | h2
   ·exact (h.mem.rf k h1).1 h2
   ·exact (h.mem.rf k h1).2 h2
  ·exact h.mem.tt.fr k h1 hk
 have far:∀ k,w.heap.size<=k->k∉F++p.all m:=fun k hk hm=>by have:=hz k hm;omega
 have g1n:∀ k,g1=k->k∉F++p.all m:=fun k e hm=>by
  subst e
  rcases at1 with h1 | h1
  ·exact hSF g1 hm (by simp [h1])
  ·exact far g1 h1 hm
 have g2n:∀ k,g2=k->k∉F++p.all m:=fun k e hm=>by
  subst e
  rcases at2 with h1 | h1
  ·exact hSF g2 hm (by simp [h1])
  ·exact far g2 h1 hm
 have own:∀ {g k n c:Nat},(Value.slice (some ⟨g,0,none⟩) n c).ownBlock=some k->g=k:=fun {g k n c} h=>by simpa [Value.ownBlock] using h
 have aKq:∀ {d:Value} {s:TV},TIn w (F++p.all m) d s->TIn ((w6.setCell ⟨a,2,none⟩ (.slice (some ⟨g1,0,none⟩) (refs.length+1) anz)).setCell ⟨a,3,none⟩ (.slice (some ⟨g2,0,none⟩) (tabs.length+1) aiP)) (F++p.all m) d s:=fun {d s} hd =>
  ⟨hd.ok,hd.row.kp fun k hk=>u2.block k (hd.row.lt k hk).2 fun hm=>by
   rcases hS k hm with rfl | h1 | h1
   ·exact hd.nb h.blk (by decide) (hzz _ (.inl rfl)) hk
   ·obtain ⟨c1,f1,e1⟩:=acE h.mem.rr h1;exact hd.nb e1 (by decide) (hzz k (.inr (.inl h1))) hk
   ·obtain ⟨c1,f1,e1⟩:=acE hxs h1;exact hd.nb e1 (by decide) (hzz k (.inr (.inr h1))) hk,hd.fr⟩
 have b1:=abV (j:=3) (abV (j:=2) aGO (.slice (some ⟨g1,0,none⟩) (refs.length+1) anz)) (.slice (some ⟨g2,0,none⟩) (tabs.length+1) aiP);have q1:=aq1 o1 aGO (by decide);have q2:=aq1 o2 aGO (by decide);have h0:=h.lo;have hbl:=h.bl
 have aSJ:aef ((w6.setCell ⟨a,2,none⟩ (.slice (some ⟨g1,0,none⟩) (refs.length+1) anz)).setCell ⟨a,3,none⟩ (.slice (some ⟨g2,0,none⟩) (tabs.length+1) aiP)) m M p (F++p.all m):=by
  obtain ⟨ds,d1,d2,d3⟩:=h.mem.mod.hs.ex
  have np:∀ k,k∈p.all m->k∉a::(rv.ownBlock.toList++tv.ownBlock.toList):=fun k hk=>hSF k (List.mem_append.2 (.inr hk))
  exact ⟨by rw [u2.block m (aa4 h.mem.mod.blk) (np m (acd.mem.2 (.inl rfl)))];exact h.mem.mod.blk,aaX h.mem.mod.os fun k hk=>u2.block k (h.mem.mod.os.lt k hk).2 (np k (acd.mem.2 (.inr (.inl hk)))),
   ⟨ds,d1,aaX d2 fun k hk=>u2.block k (d2.lt k hk).2 (np k (acd.mem.2 (.inr (.inr (.inl hk))))),fun i t c hi hc=>aKq (d3 i t c hi hc)⟩,
   aaX h.mem.mod.ts fun k hk=>u2.block k (h.mem.mod.ts.lt k hk).2 (np k (acd.mem.2 (.inr (.inr (.inr hk))))),h.mem.mod.ne,h.mem.mod.sz⟩
 refine ⟨⟨b1,⟨h.mem.ker.upd u2 fun k hk=>hSF k (List.mem_append.2 (.inl hk)),aSJ,h.mem.dj,?_,fun k hk=>?_,⟨⟨cs++[c],by simp [e1],?_,fun i s d hs hd=>?_⟩,fun k hk=>g2n k (own hk)⟩⟩,h.na,fun k hk=>?_,Nat.le_trans hbl u2.size,fun k hk=>?_⟩,?_⟩
 ·have:=ac9 (ac9 o1 (a:=⟨a,2,none⟩) (fun e=>q1 e.symm) (.slice (some ⟨g1,0,none⟩) (refs.length+1) anz)) (a:=⟨a,3,none⟩) (fun e=>q1 e.symm) (.slice (some ⟨g2,0,none⟩) (tabs.length+1) aiP)
  rw [List.length_append,List.length_singleton];unfold ach at this ⊢;rw [List.map_append];exact this
 ·have:=g1n k (own hk)
  exact ⟨fun h=>this (List.mem_append.2 (.inl h)),fun h=>this (List.mem_append.2 (.inr h))⟩
 ·rw [av4 e1,List.length_append,List.length_singleton]
  exact ac9 (ac9 o2 (a:=⟨a,2,none⟩) (fun e=>q2 e.symm) (.slice (some ⟨g1,0,none⟩) (refs.length+1) anz)) (a:=⟨a,3,none⟩) (fun e=>q2 e.symm) (.slice (some ⟨g2,0,none⟩) (tabs.length+1) aiP)
 ·by_cases hi:i<tabs.length
  ·rw [List.getElem?_append_left hi] at hs
   rw [List.getElem?_append_left (by omega)] at hd;exact aKq (e3 i s d hs hd)
  ·rw [List.getElem?_append_right (by omega)] at hs
   rw [List.getElem?_append_right (by omega),e1] at hd
   cases h3:i-tabs.length with
   | zero=>rw [h3] at hs hd;simp at hs hd;subst hs hd;exact aKq ht
   | succ j=>rw [h3] at hs;simp at hs
 ·rcases hk with hk | hk | hk | hk | hk
  ·exact h0 k (.inl hk)
  ·exact h0 k (.inr (.inl hk))
  ·exact h0 k (.inr (.inr (.inl hk)))
  ·rw [<- own hk]
   rcases at1 with h1 | h1
   ·exact h0 g1 (.inr (.inr (.inr (.inl h1))))
   ·omega
  ·rw [<- own hk]
   rcases at2 with h1 | h1
   ·exact h0 g2 (.inr (.inr (.inr (.inr h1))))
   ·omega
 ·rcases hk with rfl | hk | hk
  ·exact hbk _ (.inl rfl)
  ·rw [<- own hk]
   rcases at1 with h1 | h1
   ·exact hbk g1 (.inr (.inl h1))
   ·omega
  ·rw [<- own hk]
   rcases at2 with h1 | h1
   ·exact hbk g2 (.inr (.inr h1))
   ·omega
 ·refine Fro.of u2 fun k hk=>?_
  rcases hS k hk with rfl | h1 | h1
  ·exact h0 k (.inr (.inr (.inl rfl)))
  ·exact h0 k (.inr (.inr (.inr (.inl h1))))
  ·exact h0 k (.inr (.inr (.inr (.inr h1))))
theorem PIn.model2 {w w1:World} {n0 a b m:Nat} {rv tv:Value} {K:KV} {F:List Nat} {M M':MV} {p:acd} {refs:List Nat} {tabs:List TV} (h:PIn w n0 a b m rv tv K F M p refs tabs) (e:agq m p (F++p.all m) M' w w1):∃ p',PIn w1 n0 a b m rv tv K F M' p' refs tabs/\Fro n0 w w1/\Upd (p.all m) w w1/\Sub (p.all m) w (p'.all m):=by
 have hbl:=h.bl;obtain ⟨p',hm,u,s⟩:=h.mem.model e;refine ⟨p',⟨by rw [u.block a (aa4 h.blk) h.na.2];exact h.blk,hm,⟨h.na.1,fun hm=>?_⟩,fun k hk=>?_,Nat.le_trans h.bl u.size,h.bk⟩,Fro.of u fun k hk=>h.lo k (.inr (.inl hk)),u,s⟩
 ·rcases s a hm with h1 | h1
  ·exact h.na.2 h1
  ·have:=aa4 h.blk;omega
 ·rcases hk with hk | hk | hk
  ·exact h.lo k (.inl hk)
  ·rcases s k hk with h1 | h1
   ·exact h.lo k (.inr (.inl h1))
   ·omega
  ·exact h.lo k (.inr (.inr hk))
theorem PIn.foreign {w w':World} {n0 a b m:Nat} {rv tv:Value} {K:KV} {F S:List Nat} {M:MV} {p:acd} {refs:List Nat} {tabs:List TV} (h:PIn w n0 a b m rv tv K F M p refs tabs) (u:Upd S w w')
  (hS:∀ k,k∈S->k∉F/\k∉p.all m/\k≠a/\rv.ownBlock≠some k/\tv.ownBlock≠some k/\∃ cs e fr,w.heap[k]?=some (.cells cs e fr)/\90≠e) (hb:∀ k,k∈S->b<=k):PIn w' n0 a b m rv tv K F M p refs tabs:=by
 have hT:∀ {c:Value} {t:TV},TIn w (F++p.all m) c t->TIn w' (F++p.all m) c t:=fun hc=>hc.foreign u (fun k hk=>(hS k hk).2.2.2.2.2) fun k hk _=>⟨b,List.mem_append.2 (.inl h.mem.ker.bF),hb k hk⟩
 have hm:=h.mem.mod;obtain ⟨cs,h1,h2,h3⟩:=hm.hs.ex;obtain ⟨ds,d1,d2,d3⟩:=h.mem.tt.ex
 have nm:∀ {k},k∈p.all m->k∉S:=fun hk hx=>(hS _ hx).2.1 hk
 refine ⟨(u.block a (aa4 h.blk) fun hk=>(hS a hk).2.2.1 rfl).trans h.blk,⟨h.mem.ker.upd u fun k hk hx=>(hS k hx).1 hk,⟨(u.block m (aa4 hm.blk) (nm (acd.mem.2 (.inl rfl)))).trans hm.blk,aaX hm.os fun k hk=>u.block k (hm.os.lt k hk).2 (nm (acd.mem.2 (.inr (.inl hk)))),⟨cs,h1,aaX h2 fun k hk=>u.block k (h2.lt k hk).2 (nm (acd.mem.2 (.inr (.inr (.inl hk))))),fun i v d hv hd=>hT (h3 i v d hv hd)⟩,aaX hm.ts fun k hk=>u.block k (hm.ts.lt k hk).2 (nm (acd.mem.2 (.inr (.inr (.inr hk))))),hm.ne,hm.sz⟩,h.mem.dj,aaX h.mem.rr fun k hk=>u.block k (h.mem.rr.lt k hk).2 fun hx=>(hS k hx).2.2.2.1 hk,h.mem.rf,⟨⟨ds,d1,aaX d2 fun k hk=>u.block k (d2.lt k hk).2 fun hx=>(hS k hx).2.2.2.2.1 hk,fun i t c ht hc=>hT (d3 i t c ht hc)⟩,h.mem.tt.fr⟩⟩,h.na,h.lo,Nat.le_trans h.bl u.size,h.bk⟩
structure aq7 (K:KV) (M:MV) (refs:List Nat) (tabs:List TV):Prop where
 km:KM K M
 lr:refs.length=tabs.length
 rb:refs.length<=40
 ok:∀ t,t∈tabs->t.Ok/\t.n=K.vars
 nm:∀ (i r:Nat) (t:TV),refs[i]?=some r->tabs[i]?=some t->Names K r t
def axF (K:KV) (refs:List Nat):Prop:=∀ x,2<=x->K.hold x=refs.count x
theorem axF.le {K:KV} {refs:List Nat} (h:axF K refs) (hk:K.Ok) (x:Nat):K.hold x<=refs.length:=by
 by_cases hx:2<=x
 ·rw [h x hx];exact List.count_le_length
 ·by_cases h0:K.hold x=0
  ·omega
  ·have:=(hk.wf.ht _ (Nat.pos_of_ne_zero h0)).1;omega
end Go.Proofs.YtdackeldhdchaaaGreat
namespace Go.Proofs.YtdackeldhdchaaaGreat
theorem tkS {P:Program} {ops:Array Oper} {Q:Exit->Act->World->Prop} {md:Region.Mode} {S E:World->Prop} {Ks:List Nat} (i:Nat) {oi:Oper} {v:Value} {fuel:Nat} {L:Array Bool} {a a':Act} {w:World} (hi:ops[i]?=some oi)
  (hS:S w) (hE:amk L Ks=true->E w) (h:aiN P md ops Q S E Ks fuel (L.setIfInBounds i true) a' w)
  (hs:Region.noSelect ops=true:=by kernel_rfl) (hf:Region.free md ops L i=true:=by kernel_rfl) (hr:(Region.ready md ops L).contains i=true:=by kernel_rfl) (hik:Ks.contains i=false:=by kernel_rfl)
  (hQ:∀ c a w,Q (.panic c) (a.put oi.dst v) w->Q (.panic c) a w:=by exact fun _ _ _ h=>h)
  (hy:YieldsIf P ops S oi v a:=by exact Or.inl ⟨by rfl,by intro x hSx;(try dsimp only at hSx);go_simp;try with_reducible rfl⟩)
  (hp:a.put oi.dst v=a':=by ((try simp only [Act.put,List.getElem_toArray,List.getElem_cons_succ,List.getElem_cons_zero,List.setIfInBounds_toArray,List.set_cons_zero,List.set_cons_succ]);try exact rfl)):aiN P md ops Q S E Ks (fuel+1) L a w:=by
 subst hp;exact afc hi hs hf hr hik hQ hy hS hE h
end Go.Proofs.YtdackeldhdchaaaGreat
