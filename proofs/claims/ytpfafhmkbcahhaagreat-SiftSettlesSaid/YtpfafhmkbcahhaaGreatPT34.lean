import Derived.Test.YtpfafhmkbcahhaaGreatPT31
import Derived.Deep.RegionLaw
import Derived.Deep.AppendLies
set_option maxRecDepth 100000
set_option maxHeartbeats 3200000
namespace Go.Proofs.YtpfafhmkbcahhaaGreat
open Go.RowKit Go.Maps Go.ChangeMaps Go.WideShapes
theorem ModE.both {m:Nat} {M:MV} {p:MPtr} {Z:List Nat} {w w':World} {order trail:List Nat} {ov tv:Value} (h:ModIn w m M p Z) (u:Upd [m] w w')
  (hb:w'.heap[m]?=some (.cells #[.int .i64 M.n,.int .i64 M.c,ov,p.hv,tv] 90 (0,0)))
  (ho:w'.ownsRow w.heap.size 3 1 ov order.length (flatN order)) (ht:w'.ownsRow w.heap.size 3 1 tv trail.length (flatN trail))
  (hne:∀ k,ov.ownBlock=some k->tv.ownBlock≠some k):ModE m p Z { M with order:=order,trail:=trail } w w':=by
 have hsub:Sub Z w (Z++MPtr.all ⟨ov,p.hv,tv⟩ m):=fun k hk=>by
  rcases List.mem_append.1 hk with hk | hk
  ·exact .inl hk
  ·rcases MPtr.mem.1 hk with rfl | h1 | h1 | h1
   ·exact .inl (h.sz _ (MPtr.mem.2 (.inl rfl)))
   ·exact .inr (ho.lt k h1).1
   ·exact .inl (h.sz _ (MPtr.mem.2 (.inr (.inr (.inl h1)))))
   ·exact .inr (ht.lt k h1).1
 refine ⟨⟨ov,p.hv,tv⟩,⟨hb,row_base ho (Nat.zero_le _),?_,row_base ht (Nat.zero_le _),hne,fun k hk=>List.mem_append.2 (.inr hk)⟩,u.mono (fun k hk=>by simp at hk;subst hk;exact MPtr.mem.2 (.inl rfl)),fun k hk=>?_⟩
 ·refine (h.hs.apart hsub).keep u (fun k hk=>?_) fun k hk hm=>?_
  ·simp at hk;subst hk;exact .inl (List.mem_append.2 (.inl (h.sz _ (MPtr.mem.2 (.inl rfl)))))
  ·simp at hm;subst hm
   obtain ⟨xs,hr⟩:=h.hs.row;obtain ⟨c1,f1,e1⟩:=row_type hr hk;rw [h.blk] at e1
   injection e1 with e1
   injection e1 with _ e1 _
   exact absurd e1 (by decide)
 ·rcases MPtr.mem.1 hk with rfl | h1 | h1 | h1
  ·exact .inl (MPtr.mem.2 (.inl rfl))
  ·exact .inr (ho.lt k h1).1
  ·exact .inl (MPtr.mem.2 (.inr (.inr (.inl h1))))
  ·exact .inr (ht.lt k h1).1
theorem mundo_spec (m l:Nat) (T:List Nat) (M:MV) (p:MPtr) (Z:List Nat) (w:World) (h:ModIn w m M p Z) (ht:M.trail=T++[l]) (hT:T.length<=1000000) (hl:l+1<M.order.length) (ho:M.order.length<=64) :
  Calls Tryz.prog 101 #[.pointer (some ⟨m,0,none⟩)] w fun e w'=>e=.returned (.tuple #[.int .i64 l,.int .i64 0])/\ModE m p Z M.undo w w':=by
 obtain ⟨ti,hi2,hz2,hs2,hb2⟩:=info_parts Tryz.infoIntM;have HI:=Lib.hid (And.intro hi2 (And.intro hz2 (And.intro hs2 hb2)))
 have htl:M.trail.length=T.length+1:=by rw [ht];simp
 have hos:=h.os;have hts:=h.ts;obtain ⟨oa,oc,hov,_⟩:=row_nil_len hos;obtain ⟨ta,tc,htv,_⟩:=row_nil_len hts;obtain ⟨_,_,c2,_,c4⟩:=h.cells;rw [hov] at c2 hos;rw [htv,htl] at c4;rw [htv,htl,ht] at hts;obtain ⟨tg,rfl⟩:=row_some hts (by omega);have cl:=row_cell hts (j:=T.length) (u:=.int .i64 l) (by simp [flatN])
 have hcap:T.length+1<=tc:=by
  obtain ⟨_,(⟨e1,_⟩ | ⟨g,c9,cur,e1,_,_,h5,_⟩)⟩:=hts
  ·cases e1
  ·cases e1;exact h5
 have HU:Hid (M.undo={ M with order:=turnL M.order l,trail:=T }):=by show _=_;unfold MV.undo;rw [ht];simp
 have HM:=Lib.hid (And.intro h (And.intro hos hts))
 have HTV:Hid (p.tv=.slice (some ⟨tg,0,none⟩) (T.length+1) tc):=by show _=_;rw [htv,htl]
 clear h hos hts hov htv ht hi2 hz2 hs2 hb2
 have hne0:¬ ((T.length:Int)+1=0):=by omega
 go_enter Tryz.func101,Tryz.ntmps101
 go_wp2_with fail
 go_quiet (fail)
 have HTC:Hid (∀ x,Upd [] w x->Calls Tryz.prog 157 #[.slice oa M.order.length oc,.int .i64 l] x fun e w'=>TurnQ M.order l x e w'):=fun x u=>turned_spec 0 _ M.order l x (row_keep HM.out.2.1 fun k hk=>u.block k (HM.out.2.1.lt k hk).2 (by simp)) hl ho
 go_wp2_with fail;refine (HTC.out _ ((Upd.refl _ _).drewN _)).mono ?_;rintro e w5 hE;obtain ⟨og,occ,rfl,hN,hu⟩:=hE.ex;have hN:w5.ownsRow w.heap.size 3 1 (.slice (some ⟨og,0,none⟩) M.order.length occ) M.order.length (flatN (turnL M.order l)):=hN;have hu:Upd [] w w5:=hu.of_drewN;have hbk:=(hu.block m (heap_lt HM.out.1.blk) (by simp)).trans HM.out.1.blk;have HN:=Lib.hid (And.intro hN (And.intro hu hbk));have fz2:w5.frozen? ⟨m,2,none⟩=false:=frozen_at 2 hbk;have e2:w5.cell? ⟨m,2,none⟩=some (.slice oa M.order.length oc):=hu.cell0 c2;have e4:w5.cell? ⟨m,4,none⟩=some (.slice (some ⟨tg,0,none⟩) (T.length+1) tc):=hu.cell0 c4
 have hmt:tg≠m:=fun e=>by
  subst e;obtain ⟨_,_,e1⟩:=row_type HM.out.2.2 rfl;have e2:=HM.out.1.blk;rw [e1] at e2
  injection e2 with e2
  injection e2 with _ e2 _
  exact absurd e2 (by decide)
 have hb2:=heap_set_eq (j:=2) hbk (.slice (some ⟨og,0,none⟩) M.order.length occ);have fz4:=frozen_at 4 hb2;have hk4:=cell_at (j:=4) (v:=p.tv) hb2 rfl;rw [HTV.out] at hk4;have HB2:=Lib.hid hb2
 have hro:m≠og:=by have:=(hN.lt og rfl).1;have:=heap_lt HM.out.1.blk;omega
 have HFIN:Hid (∀ (z:World) (tv:Value),z.heap[m]?=some (.cells #[.int .i64 M.n,.int .i64 M.c,.slice (some ⟨og,0,none⟩) M.order.length occ,p.hv,p.tv] 90 (0,0))->Upd [m] w z->z.heap[og]?=(w5.setCell ⟨m,2,none⟩ (.slice (some ⟨og,0,none⟩) M.order.length occ)).heap[og]?->z.ownsRow w.heap.size 3 1 tv T.length (flatN T)->tv.ownBlock≠some m->tv.ownBlock≠some og ->
   ∀ y,(y=z.setCell ⟨m,4,none⟩ tv\/y=(z.setCell ⟨m,4,none⟩ tv).drew)->ModE m p Z M.undo w y):=fun z tv hz u ho ht ht1 ht2 y hy=>by
  rw [HU.out]
  have hyh:y.heap=(z.setCell ⟨m,4,none⟩ tv).heap:=by rcases hy with rfl | rfl <;> rfl
  have hyu:Upd [m] w y:=by
   rcases hy with rfl | rfl
   ·exact u.setCell (p:=⟨m,4,none⟩) (.inl (by simp)) _
   ·exact (u.setCell (p:=⟨m,4,none⟩) (.inl (by simp)) _).drew
  refine ModE.both HM.out.1 hyu (by
   rw [hyh,heap_set_eq hz];rfl) (ov:=.slice (some ⟨og,0,none⟩) M.order.length occ) ?_ ?_ ?_
  ·rw [turnL_len]
   have r1:=row_ne HN.out.1 (a:=⟨m,2,none⟩) (by simp only [Value.ownBlock,ne_eq,Option.some.injEq];omega) (.slice (some ⟨og,0,none⟩) M.order.length occ)
   have r2:=row_keep (w':=z) r1 fun k hk=>by simp only [Value.ownBlock,Option.some.injEq] at hk;subst hk;exact ho
   exact row_keep (row_ne r2 (a:=⟨m,4,none⟩) (by simp only [Value.ownBlock,ne_eq,Option.some.injEq];omega) tv) fun k hk=>by rw [hyh]
  ·exact row_keep (row_ne ht (a:=⟨m,4,none⟩) (fun e=>ht1 e.symm) tv) fun k hk=>by rw [hyh]
  ·intro k hk;simp only [Value.ownBlock,Option.some.injEq] at hk;subst hk;exact ht2
 have HUM:Hid (Upd [m] w (w5.setCell ⟨m,2,none⟩ (.slice (some ⟨og,0,none⟩) M.order.length occ))):=(hu.mono (by simp)).setCell (p:=⟨m,2,none⟩) (.inl (by simp)) _
 have htr:(w5.setCell ⟨m,2,none⟩ (.slice (some ⟨og,0,none⟩) M.order.length occ)).ownsRow 0 3 1 (.slice (some ⟨tg,0,none⟩) (T++[l]).length tc) (T++[l]).length (flatN (T++[l])):=by
  have:=row_ne (row_keep HM.out.2.2 fun k hk=>hu.block k (HM.out.2.2.lt k hk).2 (by simp)) (a:=⟨m,2,none⟩) (by simp only [Value.ownBlock,ne_eq,Option.some.injEq];omega) (.slice (some ⟨og,0,none⟩) M.order.length occ)
  rw [List.length_append,List.length_singleton];exact this
 have HCELL:Hid (∀ x:World,x.heap=(w5.setCell ⟨m,2,none⟩ (.slice (some ⟨og,0,none⟩) M.order.length occ)).heap->∀ j u,(flatN T)[j]?=some u->x.cell? ((⟨tg,0,none⟩ : Addr).add j)=some u):=fun x hx j u hj=>by
  have h1:j<T.length:=by have:=(List.getElem?_eq_some_iff.1 hj).1;simpa [flatN] using this
  have:=row_cell htr (j:=j) (u:=u) (by rw [show flatN (T++[l])=flatN T++[.int .i64 l] by simp [flatN],List.getElem?_append_left (by simpa [flatN] using h1)];exact hj);rw [addr_add];exact (World.cell?_of_block (by rw [hx])).trans this
 clear hE hN hu hbk hb2 HTC c2 c4 cl htr
 by_cases h0:T=[]
 ·subst h0
  go_upto_region 6 with fail
  go_region
  all_goals
   go_wp2_with fail;go_ret2;exact ⟨rfl,HFIN.out _ (.slice none 0 0) HB2.out HUM.out rfl (World.ownsRow_nil _ _ _ _) (by simp [Value.ownBlock]) (by simp [Value.ownBlock]) _ (.inr rfl)⟩
 ·have h1:0<T.length:=List.length_pos_iff.2 h0
  have HL1:Hid (∀ u,u∈flatN T->u.oneCell'=true):=by intro u hu;simp [flatN] at hu;obtain ⟨x,_,rfl⟩:=hu;rfl
  have HLEN:Hid ((flatN T).length=T.length*1):=by show _=_;simp [flatN]
  have HSZ:Hid (∀ x:World,x.heap=(w5.setCell ⟨m,2,none⟩ (.slice (some ⟨og,0,none⟩) M.order.length occ)).heap->w.heap.size<=x.heap.size):=fun x hx=>by rw [hx];exact HUM.out.size
  have HQ:Hid (∀ (x z:World),x.grownBy z (Value.slice none 0 0).ownBlock->x.heap=(w5.setCell ⟨m,2,none⟩ (.slice (some ⟨og,0,none⟩) M.order.length occ)).heap->z.cell? ⟨m,4,none⟩=some (.slice (some ⟨tg,0,none⟩) (T.length+1) tc)/\z.frozen? ⟨m,4,none⟩=false):=fun x z hgr hx=>by
   have hb:z.heap[m]?=some (.cells #[.int .i64 M.n,.int .i64 M.c,.slice (some ⟨og,0,none⟩) M.order.length occ,p.hv,p.tv] 90 (0,0)):=by
    rw [hgr.block m (by rw [hx];exact heap_lt HB2.out) (by simp [Value.ownBlock]),hx];exact HB2.out
   exact ⟨(cell_at hb rfl).trans (by rw [HTV.out];rfl),frozen_at 4 hb⟩
  have HT8:=Lib.hid (show (0+T.length)*8<=140737488355328 by omega)
  have HTM:Hid (0+T.length<=maxLen):=by show _<=_;unfold maxLen;omega
  have hwT:IntKind.i64.wrap (T.length:Int)=(T.length:Int):=IntWalk.i64_in _ (by omega)
  have hct:(T.length:Int)<=(tc:Int):=by omega
  have hct0:(0:Int)<=(T.length:Int):=by omega
  clear h0;go_upto_region 6 with fail
  go_region_law (refine step_append_lies _ rfl (.tmp 34) (.tmp 45) 22 rfl w.heap.size 3 ti _ 1 8 Tryz.underlying22 HI.out.1 HI.out.2.1 HI.out.2.2.1 HI.out.2.2.2 (by rfl) (by decide) (.slice none 0 0) 0 [] rfl (World.ownsRow_nil _ _ _ _) ⟨tg,0,none⟩ T.length tc (flatN T) rfl HLEN.out (HCELL.out _ rfl) HL1.out h1 HTM.out HT8.out (HSZ.out _ rfl) _ rfl ?_;intro g6 cap6 w6 hown hgr hat hlt6;have q4:=(HQ.out _ _ hgr rfl).1;have fq4:=(HQ.out _ _ hgr rfl).2;have HX6:=Lib.hid (And.intro hown (And.intro hgr (And.intro hat hlt6)));clear hown hgr hat hlt6)
  all_goals
   go_wp2_with fail;go_ret2;refine ⟨rfl,?_⟩;obtain ⟨hown,hgr,hat,hlt6⟩:=HX6.out;have hsz:=HUM.out.size
   have hg:g6=(w5.setCell ⟨m,2,none⟩ (.slice (some ⟨og,0,none⟩) M.order.length occ)).heap.size:=by
    rcases hat with h | h
    ·simp [Value.ownBlock] at h
    ·exact h
   have hlo:=HN.out.1.lt og rfl;have hs5:(w5.setCell ⟨m,2,none⟩ (.slice (some ⟨og,0,none⟩) M.order.length occ)).heap.size=w5.heap.size:=World.size_setCell _ _ _;refine HFIN.out w6 _ ?_ ?_ ?_ ?_ ?_ ?_ _ (.inl rfl)
   ·exact (hgr.block m (heap_lt HB2.out) (by simp [Value.ownBlock])).trans HB2.out
   ·exact HUM.out.drew.grown hgr (by simp [Value.ownBlock])
   ·exact hgr.block og (by show og<(w5.setCell _ _).heap.size;omega) (by simp [Value.ownBlock])
   ·simpa using hown
   ·simp only [Value.ownBlock,ne_eq,Option.some.injEq];have:=heap_lt HB2.out;omega
   ·simp only [Value.ownBlock,ne_eq,Option.some.injEq];omega
end Go.Proofs.YtpfafhmkbcahhaaGreat
