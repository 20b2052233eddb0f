import Derived.Test.YtdackeldhdchaaaGreatPW25
import Derived.Test.YtdackeldhdchaaaGreatPW7
import Derived.Test.YtdackeldhdchaaaGreatPW14
import Derived.Test.YtdackeldhdchaaaGreatPW16
import Derived.Test.YtdackeldhdchaaaGreatPW1
import Derived.Deep.RegionLaw
import Derived.Deep.AppendLies
import Derived.Deep.QuietTactic
import Derived.WalkKit
import Derived.BigQuiet
set_option maxRecDepth 100000
set_option maxHeartbeats 3200000
namespace Go.Proofs.YtdackeldhdchaaaGreat
open Go.RowKit Go.Maps Go.ChangeMaps Go.WideShapes
theorem abn.both {m:Nat} {M:MV} {p:aaE} {Z:List Nat} {w w':World} {order trail:List Nat} {ov tv:Value} (h:aa8 w m M p Z) (u:Upd [m] w w')
  (hb:w'.heap[m]?=some (.cells #[.int .i64 M.n,.int .i64 M.c,ov,p.hv,tv] 53 (0,0)))
  (ho:w'.ownsRow w.heap.size 3 1 ov order.length (aaC order)) (ht:w'.ownsRow w.heap.size 3 1 tv trail.length (aaC trail))
  (hne:∀ k,ov.ownBlock=some k->tv.ownBlock≠some k):abn m p Z { M with order:=order,trail:=trail } w w':=by
 have ae7:Sub Z w (Z++aaE.all ⟨ov,p.hv,tv⟩ m):=fun k hk=>by
  rcases List.mem_append.1 hk with hk | hk
  ·exact .inl hk
  ·rcases aaE.mem.1 hk with rfl | h1 | h1 | h1
   ·exact .inl (h.sz _ (aaE.mem.2 (.inl rfl)))
   ·exact .inr (ho.lt k h1).1
   ·exact .inl (h.sz _ (aaE.mem.2 (.inr (.inr (.inl h1)))))
   ·exact .inr (ht.lt k h1).1
 refine ⟨⟨ov,p.hv,tv⟩,⟨hb,abr ho (Nat.zero_le _),?_,abr ht (Nat.zero_le _),hne,fun k hk=>List.mem_append.2 (.inr hk)⟩,u.mono (fun k hk=>by simp at hk;subst hk;exact aaE.mem.2 (.inl rfl)),fun k hk=>?_⟩
 ·refine (h.hs.apart ae7).keep u (fun k hk=>?_) fun k hk hm=>?_
  ·simp at hk;subst hk;exact .inl (List.mem_append.2 (.inl (h.sz _ (aaE.mem.2 (.inl rfl)))))
  ·simp at hm;subst hm
   obtain ⟨xs,hr⟩:=h.hs.row;obtain ⟨c1,f1,e1⟩:=aaV hr hk;rw [h.blk] at e1
   injection e1 with e1
   injection e1 with _ e1 _
   exact absurd e1 (by decide)
 ·rcases aaE.mem.1 hk with rfl | h1 | h1 | h1
  ·exact .inl (aaE.mem.2 (.inl rfl))
  ·exact .inr (ho.lt k h1).1
  ·exact .inl (aaE.mem.2 (.inr (.inr (.inl h1))))
  ·exact .inr (ht.lt k h1).1
theorem abn.trans {m:Nat} {M1 M2:MV} {p:aaE} {Z:List Nat} {w w1 w2:World} (h:abn m p Z M1 w w1) (k:∀ p1,aa8 w1 m M1 p1 (Z++p1.all m)->abn m p1 (Z++p1.all m) M2 w1 w2):abn m p Z M2 w w2:=by
 obtain ⟨p1,h1,u1,s1⟩:=h.ex;obtain ⟨p2,h2,u2,s2⟩:=(k p1 h1).ex;refine ⟨p2,h2.apart (fun k hk=>.inl ?_) (fun k hk=>List.mem_append.2 (.inr hk)),u1.then u2 (fun k hk=>s1 k hk),fun k hk=>?_⟩
 ·rcases List.mem_append.1 hk with h | h
  ·exact List.mem_append.2 (.inl (List.mem_append.2 (.inl h)))
  ·exact List.mem_append.2 (.inr h)
 ·rcases s2 k hk with h | h
  ·exact s1 k h
  ·right;have:=u1.size;omega
theorem aox (m l:Nat) (T:List Nat) (M:MV) (p:aaE) (Z:List Nat) (w:World) (h:aa8 w m M p Z) (ht:M.trail=T++[l]) (hT:T.length<=1000000) (hl:l+1<M.order.length) (ho:M.order.length<=64) :
  Calls Tryz.prog 61 #[.pointer (some ⟨m,0,none⟩)] w fun e w'=>e=.returned (.tuple #[.int .i64 l,.int .i64 0])/\abn m p Z M.undo w w':=by
 obtain ⟨ti,hi2,hz2,hs2,hb2⟩:=info_parts Tryz.infoIntM;have HI:=Lib.hid (And.intro hi2 (And.intro hz2 (And.intro hs2 hb2)))
 have htl:M.trail.length=T.length+1:=by rw [ht];simp
 have hos:=h.os;have hts:=h.ts;obtain ⟨oa,oc,hov,_⟩:=aar hos;obtain ⟨ta,tc,htv,_⟩:=aar hts;obtain ⟨_,_,c2,_,c4⟩:=h.cells;rw [hov] at c2 hos;rw [htv,htl] at c4;rw [htv,htl,ht] at hts;obtain ⟨tg,rfl⟩:=abg hts (by omega);have cl:=aam hts (j:=T.length) (u:=.int .i64 l) (by simp [aaC])
 have aKl:T.length+1<=tc:=by
  obtain ⟨_,(⟨e1,_⟩ | ⟨g,c9,cur,e1,_,_,h5,_⟩)⟩:=hts
  ·cases e1
  ·cases e1;exact h5
 have HU:Hid (M.undo={ M with order:=aaT M.order l,trail:=T }):=by show _=_;unfold MV.undo;rw [ht];simp
 have HM:=Lib.hid (And.intro h (And.intro hos hts))
 have HTV:Hid (p.tv=.slice (some ⟨tg,0,none⟩) (T.length+1) tc):=by show _=_;rw [htv,htl]
 clear h hos hts hov htv ht hi2 hz2 hs2 hb2
 have auW:¬ ((T.length:Int)+1=0):=by omega
 go_enter Tryz.func61,Tryz.ntmps61
 go_wp2_with fail
 go_quiet (fail)
 have HTC:Hid (∀ x,Upd [] w x->Calls Tryz.prog 123 #[.slice oa M.order.length oc,.int .i64 l] x fun e w'=>avy M.order l x e w'):=fun x u=>afq 0 _ M.order l x (aag HM.out.2.1 fun k hk=>u.block k (HM.out.2.1.lt k hk).2 (by simp)) hl ho
 go_wp2_with fail;refine (HTC.out _ ((Upd.refl _ _).drewN _)).mono ?_;rintro e w5 hE;obtain ⟨og,occ,rfl,hN,hu⟩:=hE.ex;have hN:w5.ownsRow w.heap.size 3 1 (.slice (some ⟨og,0,none⟩) M.order.length occ) M.order.length (aaC (aaT M.order l)):=hN;have hu:Upd [] w w5:=hu.of_drewN;have hbk:=(hu.block m (aak HM.out.1.blk) (by simp)).trans HM.out.1.blk;have HN:=Lib.hid (And.intro hN (And.intro hu hbk));have fz2:w5.frozen? ⟨m,2,none⟩=false:=aal 2 hbk;have e2:w5.cell? ⟨m,2,none⟩=some (.slice oa M.order.length oc):=hu.cell0 c2;have e4:w5.cell? ⟨m,4,none⟩=some (.slice (some ⟨tg,0,none⟩) (T.length+1) tc):=hu.cell0 c4
 have hmt:tg≠m:=fun e=>by
  subst e;obtain ⟨_,_,e1⟩:=aaV HM.out.2.2 rfl;have e2:=HM.out.1.blk;rw [e1] at e2
  injection e2 with e2
  injection e2 with _ e2 _
  exact absurd e2 (by decide)
 have hb2:=aat (j:=2) hbk (.slice (some ⟨og,0,none⟩) M.order.length occ);have fz4:=aal 4 hb2;have hk4:=aab (j:=4) (v:=p.tv) hb2 rfl;rw [HTV.out] at hk4;have HB2:=Lib.hid hb2
 have hro:m≠og:=by have:=(hN.lt og rfl).1;have:=aak HM.out.1.blk;omega
 have adE:Hid (∀ (z:World) (tv:Value),z.heap[m]?=some (.cells #[.int .i64 M.n,.int .i64 M.c,.slice (some ⟨og,0,none⟩) M.order.length occ,p.hv,p.tv] 53 (0,0))->Upd [m] w z->z.heap[og]?=(w5.setCell ⟨m,2,none⟩ (.slice (some ⟨og,0,none⟩) M.order.length occ)).heap[og]?->z.ownsRow w.heap.size 3 1 tv T.length (aaC T)->tv.ownBlock≠some m->tv.ownBlock≠some og ->
   ∀ y,(y=z.setCell ⟨m,4,none⟩ tv\/y=(z.setCell ⟨m,4,none⟩ tv).drew)->abn m p Z M.undo w y):=fun z tv hz u ho ht ht1 ht2 y hy=>by
  rw [HU.out]
  have hyh:y.heap=(z.setCell ⟨m,4,none⟩ tv).heap:=by rcases hy with rfl | rfl <;> rfl
  have hyu:Upd [m] w y:=by
   rcases hy with rfl | rfl
   ·exact u.setCell (p:=⟨m,4,none⟩) (.inl (by simp)) _
   ·exact (u.setCell (p:=⟨m,4,none⟩) (.inl (by simp)) _).drew
  refine abn.both HM.out.1 hyu (by
   rw [hyh,aat hz];rfl) (ov:=.slice (some ⟨og,0,none⟩) M.order.length occ) ?_ ?_ ?_
  ·rw [ab4]
   have r1:=aaN HN.out.1 (a:=⟨m,2,none⟩) (by simp only [Value.ownBlock,ne_eq,Option.some.injEq];omega) (.slice (some ⟨og,0,none⟩) M.order.length occ)
   have r2:=aag (w':=z) r1 fun k hk=>by simp only [Value.ownBlock,Option.some.injEq] at hk;subst hk;exact ho
   exact aag (aaN r2 (a:=⟨m,4,none⟩) (by simp only [Value.ownBlock,ne_eq,Option.some.injEq];omega) tv) fun k hk=>by rw [hyh]
  ·exact aag (aaN ht (a:=⟨m,4,none⟩) (fun e=>ht1 e.symm) tv) fun k hk=>by rw [hyh]
  ·intro k hk;simp only [Value.ownBlock,Option.some.injEq] at hk;subst hk;exact ht2
 have HUM:Hid (Upd [m] w (w5.setCell ⟨m,2,none⟩ (.slice (some ⟨og,0,none⟩) M.order.length occ))):=(hu.mono (by simp)).setCell (p:=⟨m,2,none⟩) (.inl (by simp)) _
 have htr:(w5.setCell ⟨m,2,none⟩ (.slice (some ⟨og,0,none⟩) M.order.length occ)).ownsRow 0 3 1 (.slice (some ⟨tg,0,none⟩) (T++[l]).length tc) (T++[l]).length (aaC (T++[l])):=by
  have:=aaN (aag HM.out.2.2 fun k hk=>hu.block k (HM.out.2.2.lt k hk).2 (by simp)) (a:=⟨m,2,none⟩) (by simp only [Value.ownBlock,ne_eq,Option.some.injEq];omega) (.slice (some ⟨og,0,none⟩) M.order.length occ)
  rw [List.length_append,List.length_singleton];exact this
 have aAx:Hid (∀ x:World,x.heap=(w5.setCell ⟨m,2,none⟩ (.slice (some ⟨og,0,none⟩) M.order.length occ)).heap->∀ j u,(aaC T)[j]?=some u->x.cell? ((⟨tg,0,none⟩ : Addr).add j)=some u):=fun x hx j u hj=>by
  have h1:j<T.length:=by have:=(List.getElem?_eq_some_iff.1 hj).1;simpa [aaC] using this
  have:=aam htr (j:=j) (u:=u) (by rw [show aaC (T++[l])=aaC T++[.int .i64 l] by simp [aaC],List.getElem?_append_left (by simpa [aaC] using h1)];exact hj);rw [amn];exact (World.cell?_of_block (by rw [hx])).trans this
 clear hE hN hu hbk hb2 HTC c2 c4 cl htr
 by_cases h0:T=[]
 ·subst h0
  go_upto_region 6 with fail
  go_region
  all_goals
   go_wp2_with fail;go_ret2;exact ⟨rfl,adE.out _ (.slice none 0 0) HB2.out HUM.out rfl (World.ownsRow_nil _ _ _ _) (by simp [Value.ownBlock]) (by simp [Value.ownBlock]) _ (.inr rfl)⟩
 ·have h1:0<T.length:=List.length_pos_iff.2 h0
  have HL1:Hid (∀ u,u∈aaC T->u.oneCell'=true):=by intro u hu;simp [aaC] at hu;obtain ⟨x,_,rfl⟩:=hu;rfl
  have aul:Hid ((aaC T).length=T.length*1):=by show _=_;simp [aaC]
  have HSZ:Hid (∀ x:World,x.heap=(w5.setCell ⟨m,2,none⟩ (.slice (some ⟨og,0,none⟩) M.order.length occ)).heap->w.heap.size<=x.heap.size):=fun x hx=>by rw [hx];exact HUM.out.size
  have HQ:Hid (∀ (x z:World),x.grownBy z (Value.slice none 0 0).ownBlock->x.heap=(w5.setCell ⟨m,2,none⟩ (.slice (some ⟨og,0,none⟩) M.order.length occ)).heap->z.cell? ⟨m,4,none⟩=some (.slice (some ⟨tg,0,none⟩) (T.length+1) tc)/\z.frozen? ⟨m,4,none⟩=false):=fun x z hgr hx=>by
   have hb:z.heap[m]?=some (.cells #[.int .i64 M.n,.int .i64 M.c,.slice (some ⟨og,0,none⟩) M.order.length occ,p.hv,p.tv] 53 (0,0)):=by
    rw [hgr.block m (by rw [hx];exact aak HB2.out) (by simp [Value.ownBlock]),hx];exact HB2.out
   exact ⟨(aab hb rfl).trans (by rw [HTV.out];rfl),aal 4 hb⟩
  have HT8:=Lib.hid (show (0+T.length)*8<=140737488355328 by omega)
  have HTM:Hid (0+T.length<=maxLen):=by show _<=_;unfold maxLen;omega
  have hwT:IntKind.i64.wrap (T.length:Int)=(T.length:Int):=IntWalk.i64_in _ (by omega)
  have hct:(T.length:Int)<=(tc:Int):=by omega
  have aKp:(0:Int)<=(T.length:Int):=by omega
  clear h0;go_upto_region 6 with fail
  go_region_law (refine step_append_lies _ rfl (.tmp 34) (.tmp 45) 23 rfl w.heap.size 3 ti _ 1 8 Tryz.underlying23 HI.out.1 HI.out.2.1 HI.out.2.2.1 HI.out.2.2.2 (by rfl) (by decide) (.slice none 0 0) 0 [] rfl (World.ownsRow_nil _ _ _ _) ⟨tg,0,none⟩ T.length tc (aaC T) rfl aul.out (aAx.out _ rfl) HL1.out h1 HTM.out HT8.out (HSZ.out _ rfl) _ rfl ?_;intro g6 aoz w6 aaB hgr hat apI;have q4:=(HQ.out _ _ hgr rfl).1;have fq4:=(HQ.out _ _ hgr rfl).2;have HX6:=Lib.hid (And.intro aaB (And.intro hgr (And.intro hat apI)));clear aaB hgr hat apI)
  all_goals
   go_wp2_with fail;go_ret2;refine ⟨rfl,?_⟩;obtain ⟨aaB,hgr,hat,apI⟩:=HX6.out;have hsz:=HUM.out.size
   have hg:g6=(w5.setCell ⟨m,2,none⟩ (.slice (some ⟨og,0,none⟩) M.order.length occ)).heap.size:=by
    rcases hat with h | h
    ·simp [Value.ownBlock] at h
    ·exact h
   have hlo:=HN.out.1.lt og rfl;have hs5:(w5.setCell ⟨m,2,none⟩ (.slice (some ⟨og,0,none⟩) M.order.length occ)).heap.size=w5.heap.size:=World.size_setCell _ _ _;refine adE.out w6 _ ?_ ?_ ?_ ?_ ?_ ?_ _ (.inl rfl)
   ·exact (hgr.block m (aak HB2.out) (by simp [Value.ownBlock])).trans HB2.out
   ·exact HUM.out.drew.grown hgr (by simp [Value.ownBlock])
   ·exact hgr.block og (by show og<(w5.setCell _ _).heap.size;omega) (by simp [Value.ownBlock])
   ·simpa using aaB
   ·simp only [Value.ownBlock,ne_eq,Option.some.injEq];have:=aak HB2.out;omega
   ·simp only [Value.ownBlock,ne_eq,Option.some.injEq];omega
theorem abn.notrail {m:Nat} {M:MV} {p:aaE} {Z:List Nat} {w:World} (h:aa8 w m M p Z):abn m p Z { M with trail:=[] } w (w.setCell ⟨m,4,none⟩ (.slice none 0 0)):=by
 have u:Upd [m] w (w.setCell ⟨m,4,none⟩ (.slice none 0 0)):=(Upd.refl _ w).setCell (p:=⟨m,4,none⟩) (.inl (by simp)) _;have hmZ:m∈Z:=h.sz _ (aaE.mem.2 (.inl rfl))
 have key:∀ (t:TypeId),t≠53->(∃ cs fr,w.heap[m]?=some (.cells cs t fr))->False:=by
  rintro t he ⟨cs,fr,h1⟩;rw [h.blk] at h1
  injection h1 with h1
  injection h1 with _ h1 _
  exact he h1.symm
 have ae7:Sub Z w (Z++aaE.all ⟨p.ov,p.hv,.slice none 0 0⟩ m):=fun k hk=>by
  rcases List.mem_append.1 hk with hk | hk
  ·exact .inl hk
  ·rcases aaE.mem.1 hk with rfl | h1 | h1 | h1
   ·exact .inl hmZ
   ·exact .inl (h.sz _ (aaE.mem.2 (.inr (.inl h1))))
   ·exact .inl (h.sz _ (aaE.mem.2 (.inr (.inr (.inl h1)))))
   ·simp [Value.ownBlock] at h1
 refine ⟨⟨p.ov,p.hv,.slice none 0 0⟩,⟨aat h.blk _,aag h.os fun k hk=>u.block k (h.os.lt k hk).2 fun hm=>?_,?_,World.ownsRow_nil _ _ _ _,fun k _ hk=>by simp [Value.ownBlock] at hk,fun k hk=>List.mem_append.2 (.inr hk)⟩,u.mono (fun k hk=>by simp at hk;subst hk;exact aaE.mem.2 (.inl rfl)),fun k hk=>.inl ?_⟩
 ·simp at hm;subst hm;exact key _ (by decide) (aaV h.os hk)
 ·refine (h.hs.apart ae7).keep u (fun k hk=>?_) fun k hk hm=>?_
  ·simp at hk;subst hk;exact .inl (List.mem_append.2 (.inl hmZ))
  ·simp at hm;subst hm
   obtain ⟨xs,hr⟩:=h.hs.row;exact key _ (by decide) (aaV hr hk)
 ·rcases aaE.mem.1 hk with rfl | h1 | h1 | h1
  ·exact aaE.mem.2 (.inl rfl)
  ·exact aaE.mem.2 (.inr (.inl h1))
  ·exact aaE.mem.2 (.inr (.inr (.inl h1)))
  ·simp [Value.ownBlock] at h1
theorem abn.pre {m:Nat} {M:MV} {p:aaE} {Z:List Nat} {w w1 w2:World} (u:Upd [] w w1) (h:abn m p Z M w1 w2):abn m p Z M w w2:=by
 obtain ⟨p1,h1,u1,s1⟩:=h.ex;refine ⟨p1,h1,(u.mono (by simp)).trans u1,fun k hk=>?_⟩
 rcases s1 k hk with h | h
 ·exact .inl h
 ·right;have:=u.size;omega
theorem alJ (m:Nat) (M:MV) (p:aaE) (Z:List Nat) (c:Value) (t:TV) (w:World) (h:aa8 w m M p Z) (hZ:∀ k,k∈Z->k<w.heap.size) (hf:M.Fit) (ht:TIn w Z c t) (htn:t.n=M.n) (hm:∀ u,u∈M.held->u.2<=65535) :
  Calls Tryz.prog 53 #[.pointer (some ⟨m,0,none⟩),abl t c] w fun e w'=>e=.returned (.int .i64 (M.ansE t))/\abn m p Z (M.ans t) w w':=by
 obtain ⟨ta,tc,rfl,_⟩:=acK ht.row
 have HH:Hid (∀ z,Upd [] w z->Calls Tryz.prog 118 #[.pointer (some ⟨m,0,none⟩),abl t (.slice ta t.ws.length tc)] z fun e w'=>e=.returned (.int .i64 (M.holds t:Nat))/\Upd [] z w'):=fun z u =>
  ai4 m M p Z _ t z (h.keep0 u) (ht.keep0 u) (by have:=hf.hl;omega)
 have HFT:Hid (∀ (x:World) (B:Nat),Upd [] w x->x.heap[B]?=some (.cells #[.int .i64 t.n,.slice ta t.ws.length tc] 121 (0,0))->w.heap.size<=B->Calls Tryz.prog 119 #[.pointer (some ⟨m,0,none⟩),.slice (some ⟨B,0,none⟩) 1 1] x fun e w'=>e=.returned (.bool (M.fits [t]))/\Upd [] x w'):=fun x B u hB hs =>
  an3 m 0 M p Z _ [t] x (h.keep0 u) (fun k hk=>Nat.lt_of_lt_of_le (hZ k hk) u.size) hf (TLs.one hB (ht.keep0 u) (Nat.zero_le _) (fun hk=>by have:=hZ _ hk;omega)) (fun s hs=>by simp at hs;subst hs;exact htn) (by simp)
 have H1:Hid (∀ z,Upd [] w z->Calls Tryz.prog 120 #[.pointer (some ⟨m,0,none⟩),abl t (.slice ta t.ws.length tc)] z fun e w'=>arB m M p Z t z e w'):=fun z u =>
  an6 m M p Z _ t z (h.keep0 u) (fun k hk=>Nat.lt_of_lt_of_le (hZ k hk) u.size) (ht.keep0 u) (by have:=hf.hl;omega) hm
 have HSM:Hid (∀ z,Upd [] w z->abn m p Z M w z):=fun z u=>abn.same h u
 obtain ⟨E,hE⟩ : ∃ E,M.ansE t=E:=⟨_,rfl⟩;obtain ⟨hd,hhd⟩ : ∃ hd,M.holds t=hd:=⟨_,rfl⟩;obtain ⟨ft,hft⟩ : ∃ ft,M.fits [t]=ft:=⟨_,rfl⟩
 have HE:Hid (E=if 65535<=hd then 8 else if ft then 0 else 9):=by show _=_;rw [<- hE];unfold MV.ansE;rw [hhd,hft]
 have HA:Hid (M.ans t=if E=0 then { M.hold1 t with trail:=[] } else M):=by show _=_;unfold MV.ans;rw [hE]
 rw [hE];rw [hhd] at HH;rw [hft] at HFT;have HB:=Lib.hid (heap_alloc_new w (.cells #[.int .i64 t.n,.slice ta t.ws.length tc] 121 (0,0)));have hb:=adI w (.int .i64 t.n) (.slice ta t.ws.length tc);have HU0:=Lib.hid ((Upd.refl [] w).alloc (.cells #[.int .i64 t.n,.slice ta t.ws.length tc] 121 (0,0)))
 have HBK:Hid (∀ x:World,Upd [] (w.alloc (.cells #[.int .i64 t.n,.slice ta t.ws.length tc] 121 (0,0))) x->x.cell? ⟨w.heap.size,0,none⟩=some (.int .i64 t.n)/\x.cell? ⟨w.heap.size,1,none⟩=some (.slice ta t.ws.length tc)):=fun x u=>aba u hb
 unfold abl at *;generalize t.ws.length=W at *;generalize t.n=n at *;obtain ⟨b0,b1⟩:=hb;clear h hZ hf ht htn hm hE hhd hft
 go_enter Tryz.func53,Tryz.ntmps53
 go_wp2_with fail;refine (HH.out _ HU0.out).mono ?_;rintro e w1 ⟨rfl,hu⟩;have HU1:=Lib.hid hu;obtain ⟨d0,d1⟩:=HBK.out _ hu;clear hu b0 b1
 by_cases hh:65535<=hd
 ·have hdc:decide ((65535:Int)<=(hd:Int))=true:=by simp;omega
  have he:E=8:=by rw [HE.out,if_pos hh]
  subst he;clear hh;go_wp2_with fail;go_ret;refine ⟨rfl,?_⟩;rw [HA.out,if_neg (by decide)];exact HSM.out _ (HU0.out.trans HU1.out)
 ·have hdc:decide ((65535:Int)<=(hd:Int))=false:=by simp;omega
  have HHH:=Lib.hid hh;clear hh;have hb1:=heap_alloc_new w1 (.cells #[.int .i64 n,.slice ta W tc] 121 (0,0));have HFC:=Lib.hid (HFT.out _ _ ((HU0.out.trans HU1.out).alloc _) hb1 (HU0.out.trans HU1.out).size);clear hb1
  cases ft with
  | false =>
   have he:E=9:=by rw [HE.out,if_neg HHH.out];rfl
   subst he;go_wp2_with fail;refine HFC.out.mono ?_;rintro e w2 ⟨rfl,hu⟩;have HU2:=Lib.hid (((HU0.out.trans HU1.out).alloc _).trans hu);clear hu;go_wp2_with fail;go_ret;refine ⟨rfl,?_⟩;rw [HA.out,if_neg (by decide)];exact HSM.out _ HU2.out
  | true =>
   have he:E=0:=by rw [HE.out,if_neg HHH.out];rfl
   subst he;go_wp2_with fail;refine HFC.out.mono ?_;rintro e w2 ⟨rfl,hu⟩;have HU2:=Lib.hid (((HU0.out.trans HU1.out).alloc _).trans hu);obtain ⟨e0,e1⟩:=HBK.out _ ((HU1.out.alloc _).trans hu);clear hu d0 d1;go_wp2_with fail;refine (H1.out _ HU2.out).mono ?_;rintro e w3 hQ;obtain ⟨rfl,hmd⟩:=hQ.ex;obtain ⟨p1,q1,q2,q3⟩:=hmd.ex;obtain ⟨_,_,_,_,c4⟩:=q1.cells;have f4:=aal 4 q1.blk
   have HF:Hid (abn m p Z (M.ans t) w (w3.setCell ⟨m,4,none⟩ (.slice none 0 0))):=by
    rw [HA.out];first | rw [if_pos rfl] | rw [if_pos trivial]
    refine abn.pre HU2.out (hmd.trans fun p2 h2=>?_);exact abn.notrail h2
   clear hQ hmd q1 q2 q3 e0 e1;go_wp2_with fail;go_ret;exact ⟨rfl,HF.out⟩
theorem anb {o:List Nat} {l:Nat} (hl:l+1<o.length) (h:o.Nodup):(aaT o l).Nodup:=by
 have hp:(aaT o l).Perm o:=by
  unfold aaT
  have e0:o.getD l 0=o[l]:=by rw [List.getD_eq_getElem?_getD,List.getElem?_eq_getElem (by omega)];rfl
  have e1:o.getD (l+1) 0=o[l+1]:=by rw [List.getD_eq_getElem?_getD,List.getElem?_eq_getElem hl];rfl
  rw [e0,e1];exact List.set_set_perm (by omega) hl
 exact hp.nodup_iff.2 h
structure MV.Good (M:MV):Prop where
 len:M.order.length=M.n
 fit:M.Fit
 nd:M.order.Nodup
theorem MV.Good.exch {M:MV} (h:M.Good) (l:Int):(M.exch l).Good:=by
 by_cases he:M.exchE l=0
 ·obtain ⟨h0,h1,_,e⟩:=MV.exch_yes he
  rw [e]
  have hl:l.toNat+1<M.order.length:=by rw [h.len];omega
  exact ⟨by show (aaT _ _).length=M.n;rw [ab4];exact h.len,h.fit.exch hl _,anb hl h.nd⟩
 ·rw [MV.exch_no he];exact h
theorem aa8.not_ty {w:World} {m k:Nat} {M:MV} {p:aaE} {Z:List Nat} {C:Array Value} {e:TypeId} {fr:Nat × Nat} (h:aa8 w m M p Z) (hb:w.heap[k]?=some (.cells C e fr)) (h1:53≠e) (h2:3≠e) (h3:255≠e):k∉p.all m:=by
 have key:∀ (t:TypeId),t≠e->(∃ cs fr,w.heap[k]?=some (.cells cs t fr))->False:=by
  rintro t he ⟨cs,fr,h1⟩;rw [hb] at h1
  injection h1 with h1
  injection h1 with _ h1 _
  exact he h1.symm
 intro hk
 rcases aaE.mem.1 hk with rfl | h4 | h4 | h4
 ·exact key _ h1 ⟨_,_,h.blk⟩
 ·exact key _ h2 (aaV h.os h4)
 ·obtain ⟨xs,hr⟩:=h.hs.row
  exact key _ h3 (aaV hr h4)
 ·exact key _ h2 (aaV h.ts h4)
theorem TIn.less {w:World} {Z X:List Nat} {c:Value} {t:TV} (h:TIn w (Z++X) c t) (h0:∃ z,z∈Z):TIn w Z c t:=⟨h.ok,h.row.other h0 (fun _ hk=>.inl (List.mem_append.2 (.inl hk))),fun k hk hm=>h.fr k hk (List.mem_append.2 (.inl hm))⟩
theorem TIn.foreign {w w':World} {Z S:List Nat} {c:Value} {t:TV} (h:TIn w Z c t) (u:Upd S w w') (hS:∀ k,k∈S->∃ cs e fr,w.heap[k]?=some (.cells cs e fr)/\90≠e) (hz:∀ k,k∈S->(∃ z,z∈Z)->∃ z,z∈Z/\z<=k:=by exact fun _ _ h=>absurd h (by simp)):TIn w' Z c t :=
 ⟨h.ok,h.row.kp fun k hk=>u.block k (h.row.lt k hk).2 fun hm=>by
  obtain ⟨cs,e,fr,h1,h2⟩:=hS k hm
  exact h.nb h1 h2 (hz k hm) hk,h.fr⟩
theorem TIn.step {w w7:World} {Z:List Nat} {c:Value} {t:TV} {q q2:aaE} {m:Nat} (h:TIn w (Z++q.all m) c t) (s2:Upd (q.all m) w w7) (s3:Sub (q.all m) w (q2.all m)):TIn w7 (Z++q2.all m) c t:=by
 have h1:=h.keep s2 fun k hk=>.inl (List.mem_append.2 (.inr hk))
 have h2:afA w (Z++q2.all m) c t.ws.length (abA t.ws):=h.row.other ⟨m,List.mem_append.2 (.inr (aaE.mem.2 (.inl rfl)))⟩ fun k hk=>by
  rcases List.mem_append.1 hk with hk | hk
  ·exact .inl (List.mem_append.2 (.inl hk))
  ·exact (s3 k hk).imp (fun h=>List.mem_append.2 (.inr h)) id
 refine ⟨h1.ok,h2.kp (fun k hk=>s2.block k (h.row.lt k hk).2 fun hm=>h.fr k hk (List.mem_append.2 (.inr hm))),fun k hk hm=>?_⟩
 rcases List.mem_append.1 hm with hm | hm
 ·exact h.fr k hk (List.mem_append.2 (.inl hm))
 ·rcases s3 k hm with h2 | h2
  ·exact h.fr k hk (List.mem_append.2 (.inr h2))
  ·have:=(h.row.lt k hk).2;omega
structure PIn (w:World) (n0 a b m:Nat) (rv tv:Value) (K:KV) (F:List Nat) (M:MV) (p:aaE) (refs:List Nat) (tabs:List TV):Prop where
 blk:w.heap[a]?=some (.cells #[.pointer (some ⟨b,0,none⟩),.pointer (some ⟨m,0,none⟩),rv,tv] 44 (0,0))
 mem:aiv w b m rv tv K F M p refs tabs
 na:a∉F/\a∉p.all m
 lo:∀ k,(k∈F\/k∈p.all m\/k=a\/rv.ownBlock=some k\/tv.ownBlock=some k)->n0<=k
 bl:n0<=w.heap.size
 bk:∀ k,(k=a\/rv.ownBlock=some k\/tv.ownBlock=some k)->b<=k
theorem PIn.keep0 {w w':World} {n0 a b m:Nat} {rv tv:Value} {K:KV} {F:List Nat} {M:MV} {p:aaE} {refs:List Nat} {tabs:List TV} (h:PIn w n0 a b m rv tv K F M p refs tabs) (u:Upd [] w w'):PIn w' n0 a b m rv tv K F M p refs tabs :=
 ⟨by rw [u.block a (aak h.blk) (by simp)];exact h.blk,h.mem.keep0 u,h.na,h.lo,Nat.le_trans h.bl u.size,h.bk⟩
theorem PIn.kernel {w w1:World} {n0 a b m:Nat} {rv tv:Value} {K K1:KV} {F F1:List Nat} {M:MV} {p:aaE} {refs:List Nat} {tabs:List TV} (h:PIn w n0 a b m rv tv K F M p refs tabs) (hk:aa0 w1 b K1 F1) (u:Upd F w w1) (s:Sub F w F1):PIn w1 n0 a b m rv tv K1 F1 M p refs tabs/\Fro n0 w w1:=by
 have hbl:=h.bl;refine ⟨⟨by rw [u.block a (aak h.blk) h.na.1];exact h.blk,h.mem.kernel hk u s,⟨fun hm=>?_,h.na.2⟩,fun k hk=>?_,Nat.le_trans h.bl u.size,h.bk⟩,Fro.of u fun k hk=>h.lo k (.inl hk)⟩
 ·rcases s a hm with h1 | h1
  ·exact h.na.1 h1
  ·have:=aak h.blk;omega
 ·rcases hk with hk | hk
  ·rcases s k hk with h1 | h1
   ·exact h.lo k (.inl h1)
   ·omega
  ·exact h.lo k (.inr hk)
theorem PIn.model {w w1:World} {n0 a b m:Nat} {rv tv:Value} {K:KV} {F:List Nat} {M M':MV} {p:aaE} {refs:List Nat} {tabs:List TV} (h:PIn w n0 a b m rv tv K F M p refs tabs) (e:abn m p (F++p.all m) M' w w1):∃ p',PIn w1 n0 a b m rv tv K F M' p' refs tabs/\Fro n0 w w1:=by
 have hbl:=h.bl;obtain ⟨p',hm,u,s⟩:=h.mem.model e;refine ⟨p',⟨by rw [u.block a (aak h.blk) h.na.2];exact h.blk,hm,⟨h.na.1,fun hm=>?_⟩,fun k hk=>?_,Nat.le_trans h.bl u.size,h.bk⟩,Fro.of u fun k hk=>h.lo k (.inr (.inl hk))⟩
 ·rcases s a hm with h1 | h1
  ·exact h.na.2 h1
  ·have:=aak h.blk;omega
 ·rcases hk with hk | hk | hk
  ·exact h.lo k (.inl hk)
  ·rcases s k hk with h1 | h1
   ·exact h.lo k (.inr (.inl h1))
   ·omega
  ·exact h.lo k (.inr (.inr hk))
theorem PIn.cells {w:World} {n0 a b m:Nat} {rv tv:Value} {K:KV} {F:List Nat} {M:MV} {p:aaE} {refs:List Nat} {tabs:List TV} (h:PIn w n0 a b m rv tv K F M p refs tabs) :
  w.cell? ⟨a,0,none⟩=some (.pointer (some ⟨b,0,none⟩))/\w.cell? ⟨a,1,none⟩=some (.pointer (some ⟨m,0,none⟩))/\w.cell? ⟨a,2,none⟩=some rv/\w.cell? ⟨a,3,none⟩=some tv :=
 ⟨aab h.blk rfl,aab h.blk rfl,aab h.blk rfl,aab h.blk rfl⟩
theorem PIn.push {w w6:World} {n0 a b m g1 aed g2 acZ r:Nat} {rv tv c:Value} {K:KV} {F:List Nat} {M:MV} {p:aaE} {refs:List Nat} {tabs:List TV} {t:TV} {cs:List Value} (h:PIn w n0 a b m rv tv K F M p refs tabs)
  (u:Upd (rv.ownBlock.toList++tv.ownBlock.toList) w w6) (e1:cs.length=tabs.length) (e3:∀ (i:Nat) (t:TV) (c:Value),tabs[i]?=some t->cs[i]?=some c->TIn w (F++p.all m) c t)
  (o1:w6.ownsRow 0 77 1 (.slice (some ⟨g1,0,none⟩) (refs.length+1) aed) (refs.length+1) (aaF refs++[.int .u32 r]))
  (o2:w6.ownsRow 0 121 2 (.slice (some ⟨g2,0,none⟩) (tabs.length+1) acZ) (tabs.length+1) (ab1 tabs cs++[.int .i64 t.n,c]))
  (at1:rv.ownBlock=some g1\/w.heap.size<=g1) (at2:tv.ownBlock=some g2\/w.heap.size<=g2) (ht:TIn w (F++p.all m) c t) :
  PIn ((w6.setCell ⟨a,2,none⟩ (.slice (some ⟨g1,0,none⟩) (refs.length+1) aed)).setCell ⟨a,3,none⟩ (.slice (some ⟨g2,0,none⟩) (tabs.length+1) acZ)) n0 a b m (.slice (some ⟨g1,0,none⟩) (refs.length+1) aed) (.slice (some ⟨g2,0,none⟩) (tabs.length+1) acZ) K F M p (refs++[r]) (tabs++[t]) /\
  Fro n0 w ((w6.setCell ⟨a,2,none⟩ (.slice (some ⟨g1,0,none⟩) (refs.length+1) aed)).setCell ⟨a,3,none⟩ (.slice (some ⟨g2,0,none⟩) (tabs.length+1) acZ)):=by
 have hz:=h.mem.z;have hal:=aak h.blk;have hbF:b∈F:=h.mem.ker.bF
 have hzz:∀ k,(k=a\/rv.ownBlock=some k\/tv.ownBlock=some k)->(∃ z,z∈F++p.all m)->∃ z,z∈F++p.all m/\z<=k:=fun k hk _=>⟨b,List.mem_append.2 (.inl hbF),h.bk k hk⟩
 have hbw:=h.mem.ker.lt b hbF;have hbk:=h.bk;obtain ⟨xs,hxs⟩:=h.mem.tt.row;have na1:=aft h.mem.rr h.blk (by decide);have na2:=aft hxs h.blk (by decide)
 have aph:w6.heap[a]?=_:=(u.block a hal fun hm=>by
  rcases List.mem_append.1 hm with hm | hm
  ·exact na1 (by simpa using hm)
  ·exact na2 (by simpa using hm)).trans h.blk
 have u2:Upd (a::(rv.ownBlock.toList++tv.ownBlock.toList)) w ((w6.setCell ⟨a,2,none⟩ (.slice (some ⟨g1,0,none⟩) (refs.length+1) aed)).setCell ⟨a,3,none⟩ (.slice (some ⟨g2,0,none⟩) (tabs.length+1) acZ)) :=
  ((u.mono (fun k hk=>List.mem_cons_of_mem _ hk)).setCell (p:=⟨a,2,none⟩) (.inl (by simp)) _).setCell (p:=⟨a,3,none⟩) (.inl (by simp)) _
 have hS:∀ k,k∈a::(rv.ownBlock.toList++tv.ownBlock.toList)->k=a\/rv.ownBlock=some k\/tv.ownBlock=some k:=fun k hk=>by
  rcases List.mem_cons.1 hk with h | h
  ·exact .inl h
  ·rcases List.mem_append.1 h with h | h
   ·exact .inr (.inl (by simpa using h))
   ·exact .inr (.inr (by simpa using h))
 have hSF:∀ k,k∈F++p.all m->k∉a::(rv.ownBlock.toList++tv.ownBlock.toList):=fun k hk hm=>by
  rcases hS k hm with rfl | h1 | h1
  ·rcases List.mem_append.1 hk with h2 | h2
   ·exact h.na.1 h2
   ·exact h.na.2 h2
  ·rcases List.mem_append.1 hk with h2 | h2
   ·exact (h.mem.rf k h1).1 h2
   ·exact (h.mem.rf k h1).2 h2
  ·exact h.mem.tt.fr k h1 hk
 have far:∀ k,w.heap.size<=k->k∉F++p.all m:=fun k hk hm=>by have:=hz k hm;omega
 have g1n:∀ k,g1=k->k∉F++p.all m:=fun k e hm=>by
  subst e
  rcases at1 with h1 | h1
  ·exact hSF g1 hm (by simp [h1])
  ·exact far g1 h1 hm
 have g2n:∀ k,g2=k->k∉F++p.all m:=fun k e hm=>by
  subst e
  rcases at2 with h1 | h1
  ·exact hSF g2 hm (by simp [h1])
  ·exact far g2 h1 hm
 have own:∀ {g k n c:Nat},(Value.slice (some ⟨g,0,none⟩) n c).ownBlock=some k->g=k:=fun {g k n c} h=>by simpa [Value.ownBlock] using h
 have asz:∀ {d:Value} {s:TV},TIn w (F++p.all m) d s->TIn ((w6.setCell ⟨a,2,none⟩ (.slice (some ⟨g1,0,none⟩) (refs.length+1) aed)).setCell ⟨a,3,none⟩ (.slice (some ⟨g2,0,none⟩) (tabs.length+1) acZ)) (F++p.all m) d s:=fun {d s} hd =>
  ⟨hd.ok,hd.row.kp fun k hk=>u2.block k (hd.row.lt k hk).2 fun hm=>by
   rcases hS k hm with rfl | h1 | h1
   ·exact hd.nb h.blk (by decide) (hzz _ (.inl rfl)) hk
   ·obtain ⟨c1,f1,e1⟩:=aaV h.mem.rr h1;exact hd.nb e1 (by decide) (hzz k (.inr (.inl h1))) hk
   ·obtain ⟨c1,f1,e1⟩:=aaV hxs h1;exact hd.nb e1 (by decide) (hzz k (.inr (.inr h1))) hk,hd.fr⟩
 have b1:=aat (j:=3) (aat (j:=2) aph (.slice (some ⟨g1,0,none⟩) (refs.length+1) aed)) (.slice (some ⟨g2,0,none⟩) (tabs.length+1) acZ);have q1:=aft o1 aph (by decide);have q2:=aft o2 aph (by decide);have h0:=h.lo;have hbl:=h.bl
 have aAz:aa8 ((w6.setCell ⟨a,2,none⟩ (.slice (some ⟨g1,0,none⟩) (refs.length+1) aed)).setCell ⟨a,3,none⟩ (.slice (some ⟨g2,0,none⟩) (tabs.length+1) acZ)) m M p (F++p.all m):=by
  obtain ⟨ds,d1,d2,d3⟩:=h.mem.mod.hs.ex
  have np:∀ k,k∈p.all m->k∉a::(rv.ownBlock.toList++tv.ownBlock.toList):=fun k hk=>hSF k (List.mem_append.2 (.inr hk))
  exact ⟨by rw [u2.block m (aak h.mem.mod.blk) (np m (aaE.mem.2 (.inl rfl)))];exact h.mem.mod.blk,aag h.mem.mod.os fun k hk=>u2.block k (h.mem.mod.os.lt k hk).2 (np k (aaE.mem.2 (.inr (.inl hk)))),
   ⟨ds,d1,aag d2 fun k hk=>u2.block k (d2.lt k hk).2 (np k (aaE.mem.2 (.inr (.inr (.inl hk))))),fun i t c hi hc=>asz (d3 i t c hi hc)⟩,
   aag h.mem.mod.ts fun k hk=>u2.block k (h.mem.mod.ts.lt k hk).2 (np k (aaE.mem.2 (.inr (.inr (.inr hk))))),h.mem.mod.ne,h.mem.mod.sz⟩
 refine ⟨⟨b1,⟨h.mem.ker.upd u2 fun k hk=>hSF k (List.mem_append.2 (.inl hk)),aAz,h.mem.dj,?_,fun k hk=>?_,⟨⟨cs++[c],by simp [e1],?_,fun i s d hs hd=>?_⟩,fun k hk=>g2n k (own hk)⟩⟩,h.na,fun k hk=>?_,Nat.le_trans hbl u2.size,fun k hk=>?_⟩,?_⟩
 ·have:=aaN (aaN o1 (a:=⟨a,2,none⟩) (fun e=>q1 e.symm) (.slice (some ⟨g1,0,none⟩) (refs.length+1) aed)) (a:=⟨a,3,none⟩) (fun e=>q1 e.symm) (.slice (some ⟨g2,0,none⟩) (tabs.length+1) acZ)
  rw [List.length_append,List.length_singleton];unfold aaF at this ⊢;rw [List.map_append];exact this
 ·have:=g1n k (own hk)
  exact ⟨fun h=>this (List.mem_append.2 (.inl h)),fun h=>this (List.mem_append.2 (.inr h))⟩
 ·rw [ahG e1,List.length_append,List.length_singleton]
  exact aaN (aaN o2 (a:=⟨a,2,none⟩) (fun e=>q2 e.symm) (.slice (some ⟨g1,0,none⟩) (refs.length+1) aed)) (a:=⟨a,3,none⟩) (fun e=>q2 e.symm) (.slice (some ⟨g2,0,none⟩) (tabs.length+1) acZ)
 ·by_cases hi:i<tabs.length
  ·rw [List.getElem?_append_left hi] at hs
   rw [List.getElem?_append_left (by omega)] at hd;exact asz (e3 i s d hs hd)
  ·rw [List.getElem?_append_right (by omega)] at hs
   rw [List.getElem?_append_right (by omega),e1] at hd
   cases h3:i-tabs.length with
   | zero=>rw [h3] at hs hd;simp at hs hd;subst hs hd;exact asz ht
   | succ j=>rw [h3] at hs;simp at hs
 ·rcases hk with hk | hk | hk | hk | hk
  ·exact h0 k (.inl hk)
  ·exact h0 k (.inr (.inl hk))
  ·exact h0 k (.inr (.inr (.inl hk)))
  ·rw [<- own hk]
   rcases at1 with h1 | h1
   ·exact h0 g1 (.inr (.inr (.inr (.inl h1))))
   ·omega
  ·rw [<- own hk]
   rcases at2 with h1 | h1
   ·exact h0 g2 (.inr (.inr (.inr (.inr h1))))
   ·omega
 ·rcases hk with rfl | hk | hk
  ·exact hbk _ (.inl rfl)
  ·rw [<- own hk]
   rcases at1 with h1 | h1
   ·exact hbk g1 (.inr (.inl h1))
   ·omega
  ·rw [<- own hk]
   rcases at2 with h1 | h1
   ·exact hbk g2 (.inr (.inr h1))
   ·omega
 ·refine Fro.of u2 fun k hk=>?_
  rcases hS k hk with rfl | h1 | h1
  ·exact h0 k (.inr (.inr (.inl rfl)))
  ·exact h0 k (.inr (.inr (.inr (.inl h1))))
  ·exact h0 k (.inr (.inr (.inr (.inr h1))))
structure afB (K:KV) (M:MV) (refs:List Nat) (tabs:List TV):Prop where
 km:KM K M
 lr:refs.length=tabs.length
 rb:refs.length<=40
 ok:∀ t,t∈tabs->t.Ok/\t.n=K.vars
 nm:∀ (i r:Nat) (t:TV),refs[i]?=some r->tabs[i]?=some t->Names K r t
def aiE (K:KV) (refs:List Nat):Prop:=∀ x,2<=x->K.hold x=refs.count x
theorem aiE.le {K:KV} {refs:List Nat} (h:aiE K refs) (hk:K.Ok) (x:Nat):K.hold x<=refs.length:=by
 by_cases hx:2<=x
 ·rw [h x hx];exact List.count_le_length
 ·by_cases h0:K.hold x=0
  ·omega
  ·have:=(hk.wf.ht _ (Nat.pos_of_ne_zero h0)).1;omega
end Go.Proofs.YtdackeldhdchaaaGreat
namespace Go.Proofs.YtdackeldhdchaaaGreat
theorem tkS {P:Program} {ops:Array Oper} {Q:Exit->Act->World->Prop} {md:Region.Mode} {S E:World->Prop} {Ks:List Nat} (i:Nat) {oi:Oper} {v:Value} {fuel:Nat} {L:Array Bool} {a a':Act} {w:World} (hi:ops[i]?=some oi)
  (hS:S w) (hE:adS L Ks=true->E w) (h:acY P md ops Q S E Ks fuel (L.setIfInBounds i true) a' w)
  (hs:Region.noSelect ops=true:=by kernel_rfl) (hf:Region.free md ops L i=true:=by kernel_rfl) (hr:(Region.ready md ops L).contains i=true:=by kernel_rfl) (hik:Ks.contains i=false:=by kernel_rfl)
  (hQ:∀ c a w,Q (.panic c) (a.put oi.dst v) w->Q (.panic c) a w:=by exact fun _ _ _ h=>h)
  (hy:YieldsIf P ops S oi v a:=by exact Or.inl ⟨by rfl,by intro x hSx;(try dsimp only at hSx);go_simp;try with_reducible rfl⟩)
  (hp:a.put oi.dst v=a':=by ((try simp only [Act.put,List.getElem_toArray,List.getElem_cons_succ,List.getElem_cons_zero,List.setIfInBounds_toArray,List.set_cons_zero,List.set_cons_succ]);try exact rfl)):acY P md ops Q S E Ks (fuel+1) L a w:=by
 subst hp;exact abz hi hs hf hr hik hQ hy hS hE h
end Go.Proofs.YtdackeldhdchaaaGreat
