import Derived.Test.YtpfafhmkbcahhaaGreatKA27
set_option maxRecDepth 100000
set_option maxHeartbeats 1600000
namespace Go.Proofs.YtpfafhmkbcahhaaGreat
open Go.RowKit Go.Maps Go.ChangeMaps Go.WideShapes
theorem doc_any (m:Nat) (M:MV) (p:MPtr) (Z:List Nat) (a0:TV) (tabs:List TV) (x1 x2 x3 x4:Int) (la:Option Addr) (ln lc:Nat) (d:Bool) (n1 n2 n3:Int) (a1 a2 a3:Option Addr) (l1 l2 l3 k1 k2 k3:Nat) (lv:Value) (w:World) (hp:∀ k,k∈p.all m->k<w.heap.size)
  (hA:∀ z,Upd [] w z->Calls Tryz.prog 124 #[.pointer (some ⟨m,0,none⟩),lv] z fun e w'=>RfdQ m 14 M p Z a0 tabs z e w') :
  Calls Tryz.prog 28 #[.pointer (some ⟨m,0,none⟩),.agg #[.int .i64 10,.int .i64 x1,.int .i64 x2,.int .i64 x3,.int .u8 x4,.slice la ln lc,.bool d],.agg #[.int .i64 n1,.slice a1 l1 k1],.agg #[.int .i64 n2,.slice a2 l2 k2],.agg #[.int .i64 n3,.slice a3 l3 k3],lv] w fun e w'=>RfdQ m 14 M p Z a0 tabs w e w':=by
 have y0:=opCell0 w 10 x1 x2 x3 x4 (.slice la ln lc) d;obtain ⟨w1,hw1⟩ : ∃ w1,w.alloc (.cells #[.int .i64 10,.int .i64 x1,.int .i64 x2,.int .i64 x3,.int .u8 x4,.slice la ln lc,.bool d] 60 (0,0))=w1:=⟨_,rfl⟩
 have hu1:Upd [] w w1:=by rw [<- hw1];exact (Upd.refl _ _).alloc _
 have hs1:w1.heap.size=w.heap.size+1:=by rw [<- hw1,World.size_alloc]
 rw [hw1] at y0;obtain ⟨w2,hw2⟩ : ∃ w2,(((w1.alloc (.cells #[.int .i64 n1,.slice a1 l1 k1] 56 (0,0))).alloc (.cells #[.int .i64 n2,.slice a2 l2 k2] 56 (0,0))).alloc (.cells #[.int .i64 n3,.slice a3 l3 k3] 56 (0,0)))=w2:=⟨_,rfl⟩
 have hu2:Upd [] w1 w2:=by rw [<- hw2];exact ((((Upd.refl _ _).alloc _).alloc _).alloc _)
 have hs2:w2.heap.size=w.heap.size+4:=by rw [<- hw2,World.size_alloc,World.size_alloc,World.size_alloc,hs1]
 obtain ⟨w3,hw3⟩ : ∃ w3,w2.alloc (.cells #[.int .i64 0,.slice none 0 0] 56 (0,0))=w3:=⟨_,rfl⟩
 have hu3:Upd [] w2 w3:=by rw [<- hw3];exact (Upd.refl _ _).alloc _
 have hb3:w3.heap[w.heap.size+4]?=some (.cells #[.int .i64 0,.slice none 0 0] 56 (0,0)):=by
  have:=heap_alloc_new w2 (.cells #[.int .i64 0,.slice none 0 0] 56 (0,0))
  rw [hw3,hs2] at this;exact this
 have y0':=hu3.cell0 (hu2.cell0 y0);have HU:=Lib.hid ((hu1.trans hu2).trans hu3);have HB:=Lib.hid hb3;have HA:=Lib.hid (hA _ HU.out);have HP:=Lib.hid hp
 have HW:Hid (((((w.alloc (.cells #[.int .i64 10,.int .i64 x1,.int .i64 x2,.int .i64 x3,.int .u8 x4,.slice la ln lc,.bool d] 60 (0,0))).alloc (.cells #[.int .i64 n1,.slice a1 l1 k1] 56 (0,0))).alloc (.cells #[.int .i64 n2,.slice a2 l2 k2] 56 (0,0))).alloc (.cells #[.int .i64 n3,.slice a3 l3 k3] 56 (0,0))).alloc (.cells #[.int .i64 0,.slice none 0 0] 56 (0,0))=w3):=by show _=_;rw [hw1,hw2,hw3]
 clear hA hp y0 hw1 hw2 hw3 hu1 hu2 hu3 hs1 hs2 hb3
 go_enter Tryz.func28,Tryz.ntmps28
 go_upto_region 1 with fail;rw [HW.out];clear HW;go_wp2_with fail;refine HA.out.mono ?_;rintro e w4 hQ;obtain ⟨n,xa,xn,xc,rfl⟩:=hQ.shape;obtain ⟨hb4,hfin⟩:=hQ.wrap HU.out HB.out (by omega) HP.out;have HF:=Lib.hid hfin;have HB4:=Lib.hid hb4;have z0:=cell_at (j:=0) hb4 rfl;have z1:=cell_at (j:=1) hb4 rfl;have f0:=frozen_at 0 hb4;have f1:=frozen_at 1 hb4
 have HR3:Hid (∀ z:World,z.heap[w.heap.size+4]?=some (.cells #[.int .i64 0,.slice none 0 0] 56 (0,0))->((z.setCell ⟨w.heap.size+4,0,none⟩ (.int .i64 n)).setCell ⟨w.heap.size+4,1,none⟩ (.slice xa xn xc)).heap[w.heap.size+4]?=some (.cells #[.int .i64 n,.slice xa xn xc] 56 (0,0))):=fun z hz=>by
  rw [heap_set_eq (heap_set_eq hz _) _];rfl
 generalize (foldM 14 { M with trail:=[] } a0 tabs).e=E at *;clear hQ hb4 hfin y0';generalize hB4:w.heap.size+4=B4 at *;go_wp2_with fail;exact bodyPost_ret (ret_rep rfl _ _ B4 #[.int .i64 n,.slice xa xn xc] (.int .i64 E) _ rfl rfl (HR3.out _ HB4.out) Tryz.underlying56 rfl Tryz.infoTabS) rfl (HF.out _ (((Upd.refl _ _).setCell (.inl (by simp)) _).setCell (.inl (by simp)) _))
theorem Upd.setAll {S:List Nat} {w w':World} (u:Upd S w w') (x:Addr) (v:Value):Upd S (w.setCell x v) (w'.setCell x v):=by
 refine ⟨u.os,u.tape,u.output,by simpa [World.setCell] using u.size,fun k hk hn=>?_⟩
 have hk':k<w.heap.size:=by simpa [World.setCell] using hk
 have hb:=u.block k hk' hn
 by_cases e:k=x.block
 ·subst e
  simp only [World.setCell]
  rw [Array.getElem?_modify,Array.getElem?_modify,hb]
 ·rw [heap_set_ne e,heap_set_ne e];exact hb
theorem RfdQ.after {m op:Nat} {M:MV} {p:MPtr} {Z:List Nat} {a0:TV} {tabs:List TV} {w w3 z:World} {e:Ending} (h:RfdQ m op M p Z a0 tabs w e w3) (u:Upd [] w3 z):RfdQ m op M p Z a0 tabs w e z:=by
 refine ⟨fun he=>?_,fun he=>?_⟩
 ·obtain ⟨c,q,h1,h2,h3,h4,h5⟩:=h.yes he
  exact ⟨c,q,h1,h2.keep0 u,h3.keep0 u,h4.trans (u.mono (by simp)),h5⟩
 ·obtain ⟨h1,h2,h3⟩:=h.no he
  refine ⟨h1,⟨fun y uy=>?_,?_⟩,h3.trans (u.mono (by simp))⟩
  ·exact ((h2.md _ (Upd.refl _ _)).keep (u.setAll _ _)).keep uy
  ·obtain ⟨v,cs,g1,g2⟩:=h2.tv
   exact ⟨v,cs,(u.block m (heap_lt g1) (by simp)).trans g1,g2⟩
theorem WMem.modelq {w w1:World} {b m:Nat} {rv tv:Value} {K:KV} {F:List Nat} {M M':MV} {p q:MPtr} {refs:List Nat} {tabs:List TV} (h:WMem w b m rv tv K F M p refs tabs) (hm:ModIn w1 m M' q ((F++p.all m)++q.all m)) (u:Upd (p.all m) w w1) (s:Sub (p.all m) w (q.all m)):WMem w1 b m rv tv K F M' q refs tabs:=by
 have hz:=h.z;refine ⟨h.ker.upd u h.dj,⟨hm.blk,hm.os,hm.hs.apart fun k hk=>.inl ?_,hm.ts,hm.ne,fun k hk=>List.mem_append.2 (.inr hk)⟩,fun k hk hm=>?_,row_keep h.rr fun k hk=>u.block k (h.rr.lt k hk).2 (h.rf k hk).2,fun k hk=>⟨(h.rf k hk).1,fun hm=>?_⟩,?_⟩
 ·rcases List.mem_append.1 hk with hk | hk
  ·exact List.mem_append.2 (.inl (List.mem_append.2 (.inl hk)))
  ·exact List.mem_append.2 (.inr hk)
 ·rcases s k hm with h1 | h1
  ·exact h.dj k hk h1
  ·have:=hz k (List.mem_append.2 (.inl hk));omega
 ·rcases s k hm with h1 | h1
  ·exact (h.rf k hk).2 h1
  ·have:=(h.rr.lt k hk).2;omega
 ·refine ((h.tt.apart (Z':=(F++p.all m)++q.all m) fun k hk=>?_).keep u fun k hk=>.inl (List.mem_append.2 (.inl (List.mem_append.2 (.inr hk))))).apart fun k hk=>.inl ?_
  ·rcases List.mem_append.1 hk with hk | hk
   ·exact .inl hk
   ·exact (s k hk).imp (fun h=>List.mem_append.2 (.inr h)) id
  ·rcases List.mem_append.1 hk with hk | hk
   ·exact List.mem_append.2 (.inl (List.mem_append.2 (.inl hk)))
   ·exact List.mem_append.2 (.inr hk)
theorem LIn.modelq {w w1:World} {n0 a b m:Nat} {rv tv:Value} {K:KV} {F:List Nat} {M M':MV} {p q:MPtr} {refs:List Nat} {tabs:List TV} (h:LIn w n0 a b m rv tv K F M p refs tabs) (hm:ModIn w1 m M' q ((F++p.all m)++q.all m)) (u:Upd (p.all m) w w1) (s:Sub (p.all m) w (q.all m)):LIn w1 n0 a b m rv tv K F M' q refs tabs/\Fro n0 w w1:=by
 have hbl:=h.bl;refine ⟨⟨by rw [u.block a (heap_lt h.blk) h.na.2];exact h.blk,h.mem.modelq hm u s,⟨h.na.1,fun hm=>?_⟩,fun k hk=>?_,Nat.le_trans h.bl u.size⟩,Fro.of u fun k hk=>h.lo k (.inr (.inl hk))⟩
 ·rcases s a hm with h1 | h1
  ·exact h.na.2 h1
  ·have:=heap_lt h.blk;omega
 ·rcases hk with hk | hk | hk
  ·exact h.lo k (.inl hk)
  ·rcases s k hk with h1 | h1
   ·exact h.lo k (.inr (.inl h1))
   ·omega
  ·exact h.lo k (.inr (.inr hk))
theorem TIn.foreign {w w':World} {Z S:List Nat} {c:Value} {t:TV} (h:TIn w Z c t) (u:Upd S w w') (hS:∀ k,k∈S->∃ cs e fr,w.heap[k]?=some (.cells cs e fr)/\96≠e):TIn w' Z c t :=
 ⟨h.ok,row_keep h.row fun k hk=>u.block k (h.row.lt k hk).2 fun hm=>by
  obtain ⟨cs,e,fr,h1,h2⟩:=hS k hm
  exact blk_ne h.row h1 h2 hk,h.fr⟩
theorem LIn.foreign {w w':World} {n0 a b m:Nat} {rv tv:Value} {K:KV} {F S:List Nat} {M:MV} {p:MPtr} {refs:List Nat} {tabs:List TV} (h:LIn w n0 a b m rv tv K F M p refs tabs) (u:Upd S w w')
  (hS:∀ k,k∈S->k∉F/\k∉p.all m/\k≠a/\rv.ownBlock≠some k/\tv.ownBlock≠some k/\∃ cs e fr,w.heap[k]?=some (.cells cs e fr)/\96≠e):LIn w' n0 a b m rv tv K F M p refs tabs:=by
 have hT:∀ {c:Value} {t:TV},TIn w (F++p.all m) c t->TIn w' (F++p.all m) c t:=fun hc=>hc.foreign u fun k hk=>(hS k hk).2.2.2.2.2
 have hm:=h.mem.mod;obtain ⟨cs,h1,h2,h3⟩:=hm.hs.ex;obtain ⟨ds,d1,d2,d3⟩:=h.mem.tt.ex
 have nm:∀ {k},k∈p.all m->k∉S:=fun hk hx=>(hS _ hx).2.1 hk
 refine ⟨(u.block a (heap_lt h.blk) fun hk=>(hS a hk).2.2.1 rfl).trans h.blk,⟨h.mem.ker.upd u fun k hk hx=>(hS k hx).1 hk,⟨(u.block m (heap_lt hm.blk) (nm (MPtr.mem.2 (.inl rfl)))).trans hm.blk,row_keep hm.os fun k hk=>u.block k (hm.os.lt k hk).2 (nm (MPtr.mem.2 (.inr (.inl hk)))),⟨cs,h1,row_keep h2 fun k hk=>u.block k (h2.lt k hk).2 (nm (MPtr.mem.2 (.inr (.inr (.inl hk))))),fun i v d hv hd=>hT (h3 i v d hv hd)⟩,row_keep hm.ts fun k hk=>u.block k (hm.ts.lt k hk).2 (nm (MPtr.mem.2 (.inr (.inr (.inr hk))))),hm.ne,hm.sz⟩,h.mem.dj,row_keep h.mem.rr fun k hk=>u.block k (h.mem.rr.lt k hk).2 fun hx=>(hS k hx).2.2.2.1 hk,h.mem.rf,⟨⟨ds,d1,row_keep d2 fun k hk=>u.block k (d2.lt k hk).2 fun hx=>(hS k hx).2.2.2.2.1 hk,fun i t c ht hc=>hT (d3 i t c ht hc)⟩,h.mem.tt.fr⟩⟩,h.na,h.lo,Nat.le_trans h.bl u.size⟩
theorem WLog.of_km {K K':KV} {M M':MV} {refs:List Nat} {tabs:List TV} (l:WLog K M refs tabs) (al:WAll K refs tabs) (hk:K.Ok) (x:K.Ext K') (k:KM K' M'):WLog K' M' refs tabs/\WAll K' refs tabs:=by
 have ha:WAll K' refs tabs:=fun i r t h1 h2=>(al i r t h1 h2).ext hk x
 exact ⟨⟨k.agr,k.fit,l.lr,l.rb,by rw [x.vr];exact l.t2,fun t ht=>by rw [x.vr];exact l.ok t ht,fun i r t h1 h2 _=>ha i r t h1 h2,l.r32⟩,ha⟩
theorem WLog.more {K:KV} {M:MV} {refs:List Nat} {tabs:List TV} (l:WLog K M refs tabs) (hk:K.Ok) (hb:refs.length+1<=1000) {r:Nat} {t:TV} (hr:Names K r t) (ht:t.Ok) (htn:t.n=K.vars):WLog K M (refs++[r]) (tabs++[t]):=by
 obtain ⟨rest,hrest⟩:=l.t2;refine ⟨l.agr,l.fit,by simp [l.lr],by simpa using hb,⟨rest++[t],by rw [hrest];rfl⟩,fun u hu'=>?_,fun i q u h1 h2 hl=>?_,fun q hq=>?_⟩
 ·rcases List.mem_append.1 hu' with h | h
  ·exact l.ok u h
  ·simp at h;subst h;exact ⟨ht,htn⟩
 ·by_cases hi:i<refs.length
  ·rw [List.getElem?_append_left hi] at h1
   rw [List.getElem?_append_left (by rw [<- l.lr];exact hi)] at h2;exact l.nm i q u h1 h2 hl
  ·rw [List.getElem?_append_right (by omega)] at h1
   rw [List.getElem?_append_right (by rw [<- l.lr];omega),<- l.lr] at h2
   cases h3:i-refs.length with
   | zero=>rw [h3] at h1 h2;simp at h1 h2;subst h1 h2;exact hr
   | succ j=>rw [h3] at h1;simp at h1
 ·rcases List.mem_append.1 hq with h | h
  ·exact l.r32 q h
  ·simp at h;subst h;have:=hk.ref_lt hr.1;omega
theorem MV.ansE_is (M:MV) (t:TV):M.ansE t=0\/M.ansE t=8\/M.ansE t=9:=by
 unfold MV.ansE;split
 ·exact .inr (.inl rfl)
 ·split
  ·exact .inl rfl
  ·exact .inr (.inr rfl)
theorem foldM_e (op:Nat):∀ (l:List TV) (M:MV) (a:TV),(foldM op M a l).e=0\/(foldM op M a l).e=8\/(foldM op M a l).e=9
 | [],_,_=>.inl rfl
 | t::l,M,a=>by
  unfold foldM;split
  ·exact foldM_e op l _ _
  ·exact M.ansE_is _
structure FoldR (w0:World) (b op:Nat) (K0:KV) (F0:List Nat) (M0:MV) (tabs:List TV) (s:Bool) (r:Nat) (e:Int) (w:World):Prop where
 ex:∃ (K:KV) (F:List Nat),KerAt w b K F/\KM K (foldM op { M0 with trail:=[] } (constT K0.vars s) tabs).M/\(foldM op { M0 with trail:=[] } (constT K0.vars s) tabs).M.trail=[]/\K0.Ext K/\Upd F0 w0 w/\Sub F0 w0 F/\e=(foldM op { M0 with trail:=[] } (constT K0.vars s) tabs).e /\
  (∀ x,K.hold x=K0.hold x+if x=r/\2<=r then 1 else 0) /\
  (e=0->Names K r (foldM op { M0 with trail:=[] } (constT K0.vars s) tabs).a/\(foldM op { M0 with trail:=[] } (constT K0.vars s) tabs).a.Ok/\(foldM op { M0 with trail:=[] } (constT K0.vars s) tabs).a.n=K0.vars)
theorem FoldS.sum {w0 w:World} {b op:Nat} {K0:KV} {F0:List Nat} {M0:MV} {tabs:List TV} {s:Bool} {r:Nat} {e:Int} (h:FoldS w0 b op K0 F0 M0 tabs s tabs.length r e w):FoldR w0 b op K0 F0 M0 tabs s r e w:=by
 obtain ⟨K,F,M,a,h1,h2,h3,h4,h5,h6,h7⟩:=h.ex
 rcases h7 with ⟨rfl,g1,g2,g3,g4,g5⟩ | ⟨g0,g1,rfl,g5⟩
 ·have e1:foldM op { M0 with trail:=[] } (constT K0.vars s) tabs=⟨M,a,0⟩:=by rw [g1,List.drop_length];rfl
  exact ⟨K,F,h1,by rw [e1];exact h2,by rw [e1];exact h3,h4,h5,h6,by rw [e1],g5,fun _=>by rw [e1];exact ⟨g2,g3,g4⟩⟩
 ·exact ⟨K,F,h1,by rw [g1];exact h2,by rw [g1];exact h3,h4,h5,h6,by rw [g1],fun x=>by rw [g5];simp,fun h0=>absurd h0 g0⟩
structure PL (w:World) (n1:Nat) (Z:List Nat) (lv tv:Value) (fl:List Nat) (tl:List TV):Prop where
 rr:w.ownsRow n1 54 1 lv fl.length (flatRefs fl)
 tt:TLs w n1 Z tv tl
theorem PL.keep0 {w w':World} {n1:Nat} {Z:List Nat} {lv tv:Value} {fl:List Nat} {tl:List TV} (h:PL w n1 Z lv tv fl tl) (u:Upd [] w w'):PL w' n1 Z lv tv fl tl :=
 ⟨row_keep h.rr fun k hk=>u.block k (h.rr.lt k hk).2 (by simp),h.tt.keep0 u⟩
theorem PL.push {w w6:World} {n1 g1 cap1 g2 cap2 f:Nat} {Z:List Nat} {lv tv c:Value} {fl:List Nat} {tl:List TV} {t:TV} {cs:List Value} (h:PL w n1 Z lv tv fl tl) (hZ:∀ k,k∈Z->k<n1) (u:Upd (lv.ownBlock.toList++tv.ownBlock.toList) w w6)
  (e1:cs.length=tl.length) (e3:∀ (i:Nat) (t:TV) (c:Value),tl[i]?=some t->cs[i]?=some c->TIn w Z c t)
  (o1:w6.ownsRow n1 54 1 (.slice (some ⟨g1,0,none⟩) (fl.length+1) cap1) (fl.length+1) (flatRefs fl++[.int .u32 f]))
  (o2:w6.ownsRow n1 56 2 (.slice (some ⟨g2,0,none⟩) (tl.length+1) cap2) (tl.length+1) (flatTT tl cs++[.int .i64 t.n,c])) (ht:TIn w Z c t) :
  PL w6 n1 Z (.slice (some ⟨g1,0,none⟩) (fl.length+1) cap1) (.slice (some ⟨g2,0,none⟩) (tl.length+1) cap2) (fl++[f]) (tl++[t]):=by
 obtain ⟨xs,hxs⟩:=h.tt.row
 have keep:∀ {c:Value} {t:TV},TIn w Z c t->TIn w6 Z c t:=fun hc=>hc.foreign u fun k hk=>by
  rcases List.mem_append.1 hk with hk | hk
  ·have hk:lv.ownBlock=some k:=by simpa using hk
   obtain ⟨cs,fr,h1⟩:=row_type h.rr hk;exact ⟨cs,_,fr,h1,by decide⟩
  ·have hk:tv.ownBlock=some k:=by simpa using hk
   obtain ⟨cs,fr,h1⟩:=row_type hxs hk;exact ⟨cs,_,fr,h1,by decide⟩
 refine ⟨?_,⟨⟨cs++[c],by simp [e1],?_,fun i s d hs hd=>?_⟩,fun k hk hm=>?_⟩⟩
 ·rw [List.length_append,List.length_singleton]
  unfold flatRefs at o1 ⊢;rw [List.map_append];exact o1
 ·rw [flatTT_snoc e1,List.length_append,List.length_singleton];exact o2
 ·by_cases hi:i<tl.length
  ·rw [List.getElem?_append_left hi] at hs
   rw [List.getElem?_append_left (by omega)] at hd;exact keep (e3 i s d hs hd)
  ·rw [List.getElem?_append_right (by omega)] at hs
   rw [List.getElem?_append_right (by omega),e1] at hd
   cases h3:i-tl.length with
   | zero=>rw [h3] at hs hd;simp at hs hd;subst hs hd;exact keep ht
   | succ j=>rw [h3] at hs;simp at hs
 ·have:=(o2.lt k hk).1
  have:=hZ k hm;omega
theorem FoldR.pre {w0 w1 w:World} {b op:Nat} {K0:KV} {F0:List Nat} {M0:MV} {tabs:List TV} {s:Bool} {r:Nat} {e:Int} (u:Upd [] w0 w1) (h:FoldR w1 b op K0 F0 M0 tabs s r e w):FoldR w0 b op K0 F0 M0 tabs s r e w:=by
 obtain ⟨K,F,h1,h2,h3,h4,h5,h6,h7⟩:=h.ex;exact ⟨K,F,h1,h2,h3,h4,(u.mono (by simp)).trans h5,fun k hk=>(h6 k hk).imp id fun h=>Nat.le_trans u.size h,h7⟩
theorem RfdQ.pre {m op:Nat} {M:MV} {p:MPtr} {Z:List Nat} {a0:TV} {tabs:List TV} {w0 w w3:World} {e:Ending} (u:Upd [] w0 w) (h:RfdQ m op M p Z a0 tabs w e w3):RfdQ m op M p Z a0 tabs w0 e w3:=by
 refine ⟨fun he=>?_,fun he=>?_⟩
 ·obtain ⟨c,q,h1,h2,h3,h4,h5⟩:=h.yes he
  exact ⟨c,q,h1,h2,h3,(u.mono (by simp)).trans h4,fun k hk=>(h5 k hk).imp id fun h=>Nat.le_trans u.size h⟩
 ·obtain ⟨h1,h2,h3⟩:=h.no he
  exact ⟨h1,⟨fun y uy=>ModE.pre u (h2.md y uy),h2.tv⟩,(u.mono (by simp)).trans h3⟩
theorem RfdQ.up {m op:Nat} {M:MV} {p:MPtr} {Z:List Nat} {a0:TV} {tabs:List TV} {w w3:World} {e:Ending} (h:RfdQ m op M p Z a0 tabs w e w3):Upd (p.all m) w w3:=by
 by_cases he:(foldM op { M with trail:=[] } a0 tabs).e=0
 ·obtain ⟨c,q,_,_,_,h4,_⟩:=h.yes he;exact h4
 ·exact (h.no he).2.2
theorem TLs.foreign {w w':World} {n0:Nat} {Z S:List Nat} {v:Value} {L:List TV} (h:TLs w n0 Z v L) (u:Upd S w w') (hS:∀ k,k∈S->∃ cs e fr,w.heap[k]?=some (.cells cs e fr)/\96≠e/\56≠e):TLs w' n0 Z v L:=by
 obtain ⟨cs,h1,h2,h3⟩:=h.ex
 exact ⟨⟨cs,h1,row_keep h2 fun k hk=>u.block k (h2.lt k hk).2 fun hm=>by
  obtain ⟨ds,e,fr,g1,_,g2⟩:=hS k hm
  exact blk_ne h2 g1 g2 hk,fun i t c ht hc=>(h3 i t c ht hc).foreign u fun k hk=>by
  obtain ⟨ds,e,fr,g1,g2,_⟩:=hS k hk
  exact ⟨ds,e,fr,g1,g2⟩⟩,h.fr⟩
structure DocEnd (w7:World) (n0 a b m:Nat) (rv tv:Value) (K:KV) (F:List Nat) (R:FoldV) (p:MPtr) (refs:List Nat) (tabs:List TV) (n:Int) (xv:Value) (w8 w9:World):Prop where
 st:Upd [m] w8 w9
 ex:∃ q:MPtr,LIn w9 n0 a b m rv tv K F R.M q refs tabs/\Fro n0 w7 w9/\Upd (p.all m) w7 w9/\Sub (p.all m) w7 (q.all m)/\(R.e=0->n=R.a.n/\TIn w9 (F++q.all m) xv R.a)
theorem LIn.docend {w7 w8:World} {n0 a b m op:Nat} {rv tv:Value} {K:KV} {F:List Nat} {M:MV} {p:MPtr} {refs:List Nat} {tabs:List TV} {a0:TV} {tl:List TV} {n E:Int} {xv:Value} (h:LIn w7 n0 a b m rv tv K F M p refs tabs)
  (hq:RfdQ m op M p (F++p.all m) a0 tl w7 (.returned (.tuple #[.agg #[.int .i64 n,xv],.int .i64 E])) w8) (hK:K.trail=[]) :
  E=(foldM op { M with trail:=[] } a0 tl).e/\Calls Tryz.prog 29 #[.pointer (some ⟨a,0,none⟩),.int .i64 E] w8 fun e w9=>e=.returned (.tuple #[])/\DocEnd w7 n0 a b m rv tv K F (foldM op { M with trail:=[] } a0 tl) p refs tabs n xv w8 w9:=by
 obtain ⟨c0,c1,_,_⟩:=h.cells
 by_cases he:(foldM op { M with trail:=[] } a0 tl).e=0
 ·obtain ⟨c,q,h1,h2,h3,h4,h5⟩:=hq.yes he
  have hE:E=0/\n=(foldM op { M with trail:=[] } a0 tl).a.n/\xv=c:=by
   unfold tabV at h1
   injection h1 with h1;injection h1 with h1
   simp at h1
   exact ⟨h1.2,h1.1.1,h1.1.2⟩
  obtain ⟨rfl,rfl,rfl⟩:=hE;refine ⟨he.symm,(refused_no a 0 (by decide) (by decide) w8).mono ?_⟩;rintro e w9 ⟨rfl,rfl⟩;obtain ⟨g1,g2⟩:=h.modelq h2 h4 h5;refine ⟨rfl,Upd.refl _ _,q,g1,g2,h4,h5,fun _=>⟨rfl,h3.apart fun k hk=>.inl ?_⟩⟩
  rcases List.mem_append.1 hk with hk | hk
  ·exact List.mem_append.2 (.inl (List.mem_append.2 (.inl hk)))
  ·exact List.mem_append.2 (.inr hk)
 ·obtain ⟨h1,h2,h3⟩:=hq.no he
  have hE:E=(foldM op { M with trail:=[] } a0 tl).e:=by
   injection h1 with h1;injection h1 with h1
   simp at h1
   exact h1.2
  refine ⟨hE,?_⟩;obtain ⟨v,cs,g1,g2⟩:=h2.tv;have hk:KerAt w8 b K F:=h.mem.ker.upd h3 h.mem.dj;have d0:=(h3.cell (World.block_lt_of_cell? _ _ c0) h.na.2).trans c0;have d1:=(h3.cell (World.block_lt_of_cell? _ _ c1) h.na.2).trans c1;have hE2:=foldM_e op tl { M with trail:=[] } a0;refine (refused_yes a b m E (by rw [hE];rcases hE2 with h | h | h;exact absurd h he;exact .inr h;exact .inl h) K F w8 hk hK d0 d1 v (cell_at g1 g2) (frozen_at 4 g1)).mono ?_;rintro e w9 ⟨rfl,rfl⟩;obtain ⟨q,k1,k2,k3⟩:=(h2.md _ (Upd.refl _ _)).ex;obtain ⟨l1,l2⟩:=h.modelq k1 k2 k3;exact ⟨rfl,(Upd.refl _ _).setCell (.inl (by simp)) _,q,l1,l2,k2,k3,fun h0=>absurd h0 he⟩
end Go.Proofs.YtpfafhmkbcahhaaGreat
