import Derived.Test.YtfkopmhpppeheaaGreatPY22
import Derived.Test.YtfkopmhpppeheaaGreatPY5
import Derived.Test.YtfkopmhpppeheaaGreatPY4
import Derived.Test.YtfkopmhpppeheaaGreatPY21
import Derived.Test.YtfkopmhpppeheaaGreatPY2
import Derived.Test.YtfkopmhpppeheaaGreatPY3
import Derived.Test.YtfkopmhpppeheaaGreatPY1
import Derived.Test.YtfkopmhpppeheaaGreatPY18
import Derived.Test.YtfkopmhpppeheaaGreatPY19
import Derived.Test.YtfkopmhpppeheaaGreatPY13
import Derived.WideKeyEntry
import Derived.BigQuiet
import Derived.Deep.RegionHeld3
import Derived.Sort.LotA
import Derived.WalkKit
import Derived.BigGuard
import Derived.BigCall
import Derived.CellFam
import Derived.Deep.Draws
import Derived.Deep.QuietTactic
import Derived.Sort.EncStr
import Derived.Sort.Grow
import Derived.Sort.LotD1
import Derived.Sort.Row
import Derived.Lib.Strings
import Derived.Lib.Slices
import Derived.Lib.Small
import Derived.Lib.Walk
import Derived.Lib.BitFns
import Derived.Sort.LotD3
import Derived.Deep.RegionWith
import Derived.RowKit
import Derived.Sort.LotD4
import Derived.Sort.LotB
import Derived.Deep.Cut
import Derived.Sort.LotD5
import Derived.Laws.Bits64
import Derived.Laws.Bits64b
import Derived.Sort.AtCall
import Derived.Deep.LoopGhost
import Derived.Sort.LotC
import Derived.RegionTactic
import Derived.Sort.AssemblyPlain
set_option maxRecDepth 100000
set_option maxHeartbeats 1600000
namespace Go.Proofs.YtfkopmhpppeheaaGreat
open Go.RowKit Go.Maps Go.ChangeMaps Go.WideShapes
def WAll (K:KV) (refs:List Nat) (tabs:List TV):Prop:=∀ (i r:Nat) (t:TV),refs[i]?=some r->tabs[i]?=some t->Names K r t
theorem MV.Fit.hold1 {M:MV} (h:M.Fit) (hl:M.held.length+1<=65536) {t:TV} (ht:t.Ok) (hn:t.n=M.n):(M.hold1 t).Fit:=by
 unfold MV.hold1;split
 ·exact h
 ·split
  ·exact h
  ·refine ⟨?_,h.n6,h.ol,h.on,fun u hu=>?_,h.cb⟩
   ·have:=incL_len M.held t
    show (incL M.held t).length<=_
    omega
   ·have hk:=incL_keys M.held t
    have hu':u∈(incL M.held t).map (·.1):=hu;rw [hk] at hu'
    split at hu'
    ·exact h.tn u hu'
    ·rcases List.mem_append.1 hu' with h1 | h1
     ·exact h.tn u h1
     ·simp at h1;subst h1;exact ⟨ht,hn⟩
theorem WLog.no {K K1:KV} {M:MV} {refs:List Nat} {tabs:List TV} (l:WLog K M refs tabs) (hk:K.Ok) (e:K.Ext K1) (hd:∀ x,K1.hold x=K.hold x):WLog K1 M refs tabs :=
 ⟨l.agr.same_kernel hk e hd,l.fit,l.lr,l.rb,by rw [e.vr];exact l.t2,fun t ht=>by rw [e.vr];exact l.ok t ht,fun i r t h1 h2 h3=>(l.nm i r t h1 h2 h3).ext hk e,l.r32⟩
theorem WLog.yes {K K1:KV} {M:MV} {refs:List Nat} {tabs:List TV} (l:WLog K M refs tabs) (al:WAll K refs tabs) (hk:K.Ok) (hu:K.Uni) (hk1:K1.Ok) (hu1:K1.Uni) (hn:K.vars<=16) {t:TV} (ht:t.Ok) (htn:t.n=K.vars) (e:K.Ext K1) {r:Nat} (hr:Names K1 r t)
  (hd:∀ x,K1.hold x=K.hold x+if x=r/\2<=r then 1 else 0) (hl:M.held.length+1<=65536) (hb:refs.length+1<=1000):M.hold1E t=0/\WLog K1 (M.hold1 t) (refs++[r]) (tabs++[t])/\WAll K1 (refs++[r]) (tabs++[t]):=by
 have hs:=l.agr.step hk hu hk1 hu1 hn ht htn e hr hd
 have ha:WAll K1 (refs++[r]) (tabs++[t]):=fun i q u h1 h2=>by
  by_cases hi:i<refs.length
  ·rw [List.getElem?_append_left hi] at h1
   rw [List.getElem?_append_left (by rw [<- l.lr];exact hi)] at h2;exact (al i q u h1 h2).ext hk e
  ·rw [List.getElem?_append_right (by omega)] at h1
   rw [List.getElem?_append_right (by rw [<- l.lr];omega),<- l.lr] at h2
   cases h3:i-refs.length with
   | zero=>rw [h3] at h1 h2;simp at h1 h2;subst h1 h2;exact hr
   | succ j=>rw [h3] at h1;simp at h1
 obtain ⟨rest,hrest⟩:=l.t2;refine ⟨hs.1,⟨hs.2,l.fit.hold1 hl ht (htn.trans l.agr.same.n.symm),by simp [l.lr],by simpa using hb,⟨rest++[t],by rw [hrest,e.vr];rfl⟩,fun u hu'=>?_,fun i q u h1 h2 _=>ha i q u h1 h2,fun q hq=>?_⟩,ha⟩
 ·rw [e.vr]
  rcases List.mem_append.1 hu' with h | h
  ·exact l.ok u h
  ·simp at h;subst h;exact ⟨ht,htn⟩
 ·rcases List.mem_append.1 hq with h | h
  ·exact l.r32 q h
  ·simp at h;subst h;have:=hk1.ref_lt hr.1;omega
theorem MV.hold1_len (M:MV) (t:TV):(M.hold1 t).held.length<=M.held.length+1:=by
 unfold MV.hold1;split
 ·omega
 ·split
  ·omega
  ·exact incL_len _ _
theorem MV.hold1_trail (M:MV) (t:TV):(M.hold1 t).trail=M.trail:=by
 unfold MV.hold1;split
 ·rfl
 ·split <;> rfl
theorem ty_ne {w:World} {b1 b2:Nat} {e1 e2:TypeId} {z1 z2 n1 n2:Nat} {v1 v2:Value} {xs ys:List Value} (h1:w.ownsRow b1 e1 z1 v1 n1 xs) (h2:w.ownsRow b2 e2 z2 v2 n2 ys) (hne:e1≠e2) {k:Nat} (k1:v1.ownBlock=some k) (k2:v2.ownBlock=some k):False:=by
 obtain ⟨c1,f1,a1⟩:=row_type h1 k1;obtain ⟨c2,f2,a2⟩:=row_type h2 k2;rw [a1] at a2
 injection a2 with a2;injection a2 with _ a2 _;exact hne a2
theorem blk_ne {w:World} {b1:Nat} {e1 e2:TypeId} {z1 n1 k:Nat} {v1:Value} {xs:List Value} {cs:Array Value} {fr:Nat × Nat} (h1:w.ownsRow b1 e1 z1 v1 n1 xs) (h2:w.heap[k]?=some (.cells cs e2 fr)) (hne:e1≠e2):v1.ownBlock≠some k:=fun k1=>by
 obtain ⟨c1,f1,a1⟩:=row_type h1 k1;rw [a1] at h2
 injection h2 with a2;injection a2 with _ a2 _;exact hne a2
theorem row_grow {w5 y w6:World} {o:Option Nat} {b:Nat} {e:TypeId} {sz n:Nat} {v:Value} {xs:List Value} (u:Upd [] w5 y) (g:y.grownBy w6 o) (h:w5.ownsRow b e sz v n xs) (hne:∀ k,v.ownBlock=some k->o=some k->False):w6.ownsRow b e sz v n xs :=
 row_keep h fun k hk=>(g.block k (Nat.lt_of_lt_of_le (h.lt k hk).2 u.size) (fun e=>hne k hk e.symm)).trans (u.block k (h.lt k hk).2 (by simp))
theorem app_at {w y:World} {S:List Nat} {o:Option Nat} {g:Nat} (u:Upd S w y) (h:o=some g\/g=y.heap.size):o=some g\/w.heap.size<=g:=h.imp id fun e=>by rw [e];exact u.size
theorem LIn.push {w w6:World} {n0 a b m g1 cap1 g2 cap2 r:Nat} {rv tv c:Value} {K:KV} {F:List Nat} {M:MV} {p:MPtr} {refs:List Nat} {tabs:List TV} {t:TV} {cs:List Value} (h:LIn w n0 a b m rv tv K F M p refs tabs)
  (u:Upd (rv.ownBlock.toList++tv.ownBlock.toList) w w6) (e1:cs.length=tabs.length) (e3:∀ (i:Nat) (t:TV) (c:Value),tabs[i]?=some t->cs[i]?=some c->TIn w (F++p.all m) c t)
  (o1:w6.ownsRow 0 77 1 (.slice (some ⟨g1,0,none⟩) (refs.length+1) cap1) (refs.length+1) (flatRefs refs++[.int .u32 r]))
  (o2:w6.ownsRow 0 122 2 (.slice (some ⟨g2,0,none⟩) (tabs.length+1) cap2) (tabs.length+1) (flatTT tabs cs++[.int .i64 t.n,c]))
  (at1:rv.ownBlock=some g1\/w.heap.size<=g1) (at2:tv.ownBlock=some g2\/w.heap.size<=g2) (ht:TIn w (F++p.all m) c t) :
  LIn ((w6.setCell ⟨a,2,none⟩ (.slice (some ⟨g1,0,none⟩) (refs.length+1) cap1)).setCell ⟨a,3,none⟩ (.slice (some ⟨g2,0,none⟩) (tabs.length+1) cap2)) n0 a b m (.slice (some ⟨g1,0,none⟩) (refs.length+1) cap1) (.slice (some ⟨g2,0,none⟩) (tabs.length+1) cap2) K F M p (refs++[r]) (tabs++[t]) /\
  Fro n0 w ((w6.setCell ⟨a,2,none⟩ (.slice (some ⟨g1,0,none⟩) (refs.length+1) cap1)).setCell ⟨a,3,none⟩ (.slice (some ⟨g2,0,none⟩) (tabs.length+1) cap2)):=by
 have hz:=h.mem.z;have hal:=heap_lt h.blk;obtain ⟨xs,hxs⟩:=h.mem.tt.row;have na1:=blk_ne h.mem.rr h.blk (by decide);have na2:=blk_ne hxs h.blk (by decide)
 have hblk6:w6.heap[a]?=_:=(u.block a hal fun hm=>by
  rcases List.mem_append.1 hm with hm | hm
  ·exact na1 (by simpa using hm)
  ·exact na2 (by simpa using hm)).trans h.blk
 have u2:Upd (a::(rv.ownBlock.toList++tv.ownBlock.toList)) w ((w6.setCell ⟨a,2,none⟩ (.slice (some ⟨g1,0,none⟩) (refs.length+1) cap1)).setCell ⟨a,3,none⟩ (.slice (some ⟨g2,0,none⟩) (tabs.length+1) cap2)) :=
  ((u.mono (fun k hk=>List.mem_cons_of_mem _ hk)).setCell (p:=⟨a,2,none⟩) (.inl (by simp)) _).setCell (p:=⟨a,3,none⟩) (.inl (by simp)) _
 have hS:∀ k,k∈a::(rv.ownBlock.toList++tv.ownBlock.toList)->k=a\/rv.ownBlock=some k\/tv.ownBlock=some k:=fun k hk=>by
  rcases List.mem_cons.1 hk with h | h
  ·exact .inl h
  ·rcases List.mem_append.1 h with h | h
   ·exact .inr (.inl (by simpa using h))
   ·exact .inr (.inr (by simpa using h))
 have hSF:∀ k,k∈F++p.all m->k∉a::(rv.ownBlock.toList++tv.ownBlock.toList):=fun k hk hm=>by
  rcases hS k hm with rfl | h1 | h1
  ·rcases List.mem_append.1 hk with h2 | h2
   ·exact h.na.1 h2
   ·exact h.na.2 h2
  ·rcases List.mem_append.1 hk with h2 | h2
   ·exact (h.mem.rf k h1).1 h2
   ·exact (h.mem.rf k h1).2 h2
  ·exact h.mem.tt.fr k h1 hk
 have far:∀ k,w.heap.size<=k->k∉F++p.all m:=fun k hk hm=>by have:=hz k hm;omega
 have g1n:∀ k,g1=k->k∉F++p.all m:=fun k e hm=>by
  subst e
  rcases at1 with h1 | h1
  ·exact hSF g1 hm (by simp [h1])
  ·exact far g1 h1 hm
 have g2n:∀ k,g2=k->k∉F++p.all m:=fun k e hm=>by
  subst e
  rcases at2 with h1 | h1
  ·exact hSF g2 hm (by simp [h1])
  ·exact far g2 h1 hm
 have own:∀ {g k n c:Nat},(Value.slice (some ⟨g,0,none⟩) n c).ownBlock=some k->g=k:=fun {g k n c} h=>by simpa [Value.ownBlock] using h
 have keepT:∀ {d:Value} {s:TV},TIn w (F++p.all m) d s->TIn ((w6.setCell ⟨a,2,none⟩ (.slice (some ⟨g1,0,none⟩) (refs.length+1) cap1)).setCell ⟨a,3,none⟩ (.slice (some ⟨g2,0,none⟩) (tabs.length+1) cap2)) (F++p.all m) d s:=fun {d s} hd =>
  ⟨hd.ok,row_keep hd.row fun k hk=>u2.block k (hd.row.lt k hk).2 fun hm=>by
   rcases hS k hm with rfl | h1 | h1
   ·exact blk_ne hd.row h.blk (by decide) hk
   ·exact ty_ne hd.row h.mem.rr (by decide) hk h1
   ·exact ty_ne hd.row hxs (by decide) hk h1,hd.fr⟩
 have b1:=heap_set_eq (j:=3) (heap_set_eq (j:=2) hblk6 (.slice (some ⟨g1,0,none⟩) (refs.length+1) cap1)) (.slice (some ⟨g2,0,none⟩) (tabs.length+1) cap2);have q1:=blk_ne o1 hblk6 (by decide);have q2:=blk_ne o2 hblk6 (by decide);have h0:=h.lo;have hbl:=h.bl
 have hmod:ModIn ((w6.setCell ⟨a,2,none⟩ (.slice (some ⟨g1,0,none⟩) (refs.length+1) cap1)).setCell ⟨a,3,none⟩ (.slice (some ⟨g2,0,none⟩) (tabs.length+1) cap2)) m M p (F++p.all m):=by
  obtain ⟨ds,d1,d2,d3⟩:=h.mem.mod.hs.ex
  have np:∀ k,k∈p.all m->k∉a::(rv.ownBlock.toList++tv.ownBlock.toList):=fun k hk=>hSF k (List.mem_append.2 (.inr hk))
  exact ⟨by rw [u2.block m (heap_lt h.mem.mod.blk) (np m (MPtr.mem.2 (.inl rfl)))];exact h.mem.mod.blk,row_keep h.mem.mod.os fun k hk=>u2.block k (h.mem.mod.os.lt k hk).2 (np k (MPtr.mem.2 (.inr (.inl hk)))),
   ⟨ds,d1,row_keep d2 fun k hk=>u2.block k (d2.lt k hk).2 (np k (MPtr.mem.2 (.inr (.inr (.inl hk))))),fun i t c hi hc=>keepT (d3 i t c hi hc)⟩,
   row_keep h.mem.mod.ts fun k hk=>u2.block k (h.mem.mod.ts.lt k hk).2 (np k (MPtr.mem.2 (.inr (.inr (.inr hk))))),h.mem.mod.ne,h.mem.mod.sz⟩
 refine ⟨⟨b1,⟨h.mem.ker.upd u2 fun k hk=>hSF k (List.mem_append.2 (.inl hk)),hmod,h.mem.dj,?_,fun k hk=>?_,⟨⟨cs++[c],by simp [e1],?_,fun i s d hs hd=>?_⟩,fun k hk=>g2n k (own hk)⟩⟩,h.na,fun k hk=>?_,Nat.le_trans hbl u2.size⟩,?_⟩
 ·have:=row_ne (row_ne o1 (a:=⟨a,2,none⟩) (fun e=>q1 e.symm) (.slice (some ⟨g1,0,none⟩) (refs.length+1) cap1)) (a:=⟨a,3,none⟩) (fun e=>q1 e.symm) (.slice (some ⟨g2,0,none⟩) (tabs.length+1) cap2)
  rw [List.length_append,List.length_singleton];unfold flatRefs at this ⊢;rw [List.map_append];exact this
 ·have:=g1n k (own hk)
  exact ⟨fun h=>this (List.mem_append.2 (.inl h)),fun h=>this (List.mem_append.2 (.inr h))⟩
 ·rw [flatTT_snoc e1,List.length_append,List.length_singleton]
  exact row_ne (row_ne o2 (a:=⟨a,2,none⟩) (fun e=>q2 e.symm) (.slice (some ⟨g1,0,none⟩) (refs.length+1) cap1)) (a:=⟨a,3,none⟩) (fun e=>q2 e.symm) (.slice (some ⟨g2,0,none⟩) (tabs.length+1) cap2)
 ·by_cases hi:i<tabs.length
  ·rw [List.getElem?_append_left hi] at hs
   rw [List.getElem?_append_left (by omega)] at hd;exact keepT (e3 i s d hs hd)
  ·rw [List.getElem?_append_right (by omega)] at hs
   rw [List.getElem?_append_right (by omega),e1] at hd
   cases h3:i-tabs.length with
   | zero=>rw [h3] at hs hd;simp at hs hd;subst hs hd;exact keepT ht
   | succ j=>rw [h3] at hs;simp at hs
 ·rcases hk with hk | hk | hk | hk | hk
  ·exact h0 k (.inl hk)
  ·exact h0 k (.inr (.inl hk))
  ·exact h0 k (.inr (.inr (.inl hk)))
  ·rw [<- own hk]
   rcases at1 with h1 | h1
   ·exact h0 g1 (.inr (.inr (.inr (.inl h1))))
   ·omega
  ·rw [<- own hk]
   rcases at2 with h1 | h1
   ·exact h0 g2 (.inr (.inr (.inr (.inr h1))))
   ·omega
 ·refine Fro.of u2 fun k hk=>?_
  rcases hS k hk with rfl | h1 | h1
  ·exact h0 k (.inr (.inr (.inl rfl)))
  ·exact h0 k (.inr (.inr (.inr (.inl h1))))
  ·exact h0 k (.inr (.inr (.inr (.inr h1))))
def MV.layT (M:MV) (t:TV):MV:=if M.fits [t]=true then M.hold1 t else M
structure LayW (n0 a b m:Nat) (K:KV) (M:MV) (refs:List Nat) (tabs:List TV) (t:TV) (w:World) (e:Ending) (w':World):Prop where
 ex:∃ (rv tv:Value) (K':KV) (F':List Nat) (M':MV) (p':MPtr) (refs':List Nat) (tabs':List TV),e=.returned (.bool true)/\LIn w' n0 a b m rv tv K' F' M' p' refs' tabs'/\WLog K' M' refs' tabs'/\WAll K' refs' tabs'/\Fro n0 w w' /\
  (∀ x,K'.hold x<=K.hold x+1)/\refs'.length<=refs.length+1/\M'.held.length<=M.held.length+1/\M'.trail=M.trail/\K.Ext K'/\(∀ i r:Nat,refs[i]?=some r->refs'[i]?=some r)/\M'=M.layT t/\(∀ x,K.hold x<=K'.hold x)/\∀ r,r∈refs'->r∈refs\/r<2\/0<K'.hold r
theorem TLs.one {W:World} {n0 g:Nat} {Z:List Nat} {d0:Value} {t0:TV} (h:W.heap[g]?=some (.cells #[.int .i64 t0.n,d0] 122 (0,0))) (h0:TIn W Z d0 t0) (hg:n0<=g) (hZ:g∉Z) :
  TLs W n0 Z (.slice (some ⟨g,0,none⟩) 1 1) [t0]:=by
 refine ⟨⟨[d0],rfl,⟨rfl,.inr ⟨g,1,_,rfl,hg,h,Nat.le_refl _,by unfold maxLen;omega,rfl,rfl⟩⟩,fun i t c ht hc=>?_⟩,fun k hk=>?_⟩
 ·match i,ht,hc with
  | 0,ht,hc=>simp at ht hc;subst ht hc;exact h0
  | i+1,ht,_=>simp at ht
 ·simp [Value.ownBlock] at hk;subst hk;exact hZ
theorem LIn.model2 {w w1:World} {n0 a b m:Nat} {rv tv:Value} {K:KV} {F:List Nat} {M M':MV} {p:MPtr} {refs:List Nat} {tabs:List TV} (h:LIn w n0 a b m rv tv K F M p refs tabs) (e:ModE m p (F++p.all m) M' w w1):∃ p',LIn w1 n0 a b m rv tv K F M' p' refs tabs/\Fro n0 w w1/\Upd (p.all m) w w1/\Sub (p.all m) w (p'.all m):=by
 have hbl:=h.bl;obtain ⟨p',hm,u,s⟩:=h.mem.model e;refine ⟨p',⟨by rw [u.block a (heap_lt h.blk) h.na.2];exact h.blk,hm,⟨h.na.1,fun hm=>?_⟩,fun k hk=>?_,Nat.le_trans h.bl u.size⟩,Fro.of u fun k hk=>h.lo k (.inr (.inl hk)),u,s⟩
 ·rcases s a hm with h1 | h1
  ·exact h.na.2 h1
  ·have:=heap_lt h.blk;omega
 ·rcases hk with hk | hk | hk
  ·exact h.lo k (.inl hk)
  ·rcases s k hk with h1 | h1
   ·exact h.lo k (.inr (.inl h1))
   ·omega
  ·exact h.lo k (.inr (.inr hk))
theorem opB_or (a b:Bool):opB 14 a b=(a||b):=by cases a <;> cases b <;> decide
theorem node_field0 (a b c:Value) (z:World):(Instr.field 116 (.agg #[a,b,c]) 0).run Tryz.prog z=.ok a z:=by kernel_rfl
end Go.Proofs.YtfkopmhpppeheaaGreat
namespace Go.Proofs.YtfkopmhpppeheaaGreat.Srt
open Go.RowKit Go.Sort
def intOf:Value->Int | .int _ q=>q | _=>0
section
variable {α : Type} [Inhabited α] (lt:α->α->Bool)
end
section
variable {α : Type} [Inhabited α] (enc:α->Value)
end
end Go.Proofs.YtfkopmhpppeheaaGreat.Srt
namespace Go.Proofs.YtfkopmhpppeheaaGreat.Srt
open Go.RowKit Go.Sort
end Go.Proofs.YtfkopmhpppeheaaGreat.Srt
namespace Go.Proofs.YtfkopmhpppeheaaGreat.Srt
open Go.Sort Go.RowKit
abbrev one (s:Nat):Array Int:=#[(s:Int)]
end Go.Proofs.YtfkopmhpppeheaaGreat.Srt
namespace Go.Sort
variable {α : Type} [Inhabited α]
def At (enc:α->Value) (w:World) (blk off:Nat) (d:Array α) (wr:World):Prop:=∃ n os,wr=grow (putRow enc (ahead w n) blk off d) os
section
variable {enc:α->Value} {w wr w1:World} {blk off:Nat} {d d' d0:Array α}
end
section
variable (lt:α->α->Bool)
variable {lt} {d:Array α} {a b limit:Nat} {wb wp:Bool}
end
end Go.Sort
namespace Go.Proofs.YtfkopmhpppeheaaGreat.Srt
open Go.Sort Go.RowKit
end Go.Proofs.YtfkopmhpppeheaaGreat.Srt
namespace Go.Proofs.YtfkopmhpppeheaaGreat
def MV.Uo (M:MV) (o:List Nat) (l:Nat):Nat:=(unlikeT ((levT (unlikeT M.tabs) o).flatten++(levT (unlikeT M.tabs) (turnL o l)).flatten)).length
def MV.fitT (M:MV):List Nat->List Nat->Prop
 | [],_=>True
 | l::r,o=>l+2<=M.n/\2+M.Uo o l<=M.c/\M.fitT r (turnL o l)
def MV.TrFit (M:MV):Prop:=M.fitT M.trail.reverse M.order
end Go.Proofs.YtfkopmhpppeheaaGreat
namespace Go.Proofs.YtfkopmhpppeheaaGreat
open Go.RowKit Go.Maps Go.ChangeMaps Go.WideShapes
theorem u64_wrap_nonneg (n:Int):0<=IntKind.u64.wrap n/\IntKind.u64.wrap n<18446744073709551616:=by
 simp [IntKind.wrap,IntKind.bits,IntKind.signed]
 omega
def varsN (n:Int):Nat:=((IntKind.u64.wrap n).tmod 6).toNat+1
theorem lvars_spec (n:Int) (w:World):Calls Tryz.prog 97 #[.int .i64 n] w fun e w'=>(∃ v:Nat,v=varsN n/\e=.returned (.int .i64 v)/\1<=v/\v<=6)/\w'=w:=by
 obtain ⟨m,hm,hlt⟩ : ∃ m:Nat,(IntKind.u64.wrap n).tmod 6=m/\m<6:=by
  have h0:=(u64_wrap_nonneg n).1;rw [Int.tmod_eq_emod_of_nonneg h0];exact ⟨((IntKind.u64.wrap n) % 6).toNat,by omega,by omega⟩
 have HM:=Lib.hid hm;clear hm
 go_enter Tryz.func97,Tryz.ntmps97
 go_wp2_with fail;go_ret;refine ⟨⟨m+1,by unfold varsN;rw [HM.out];rfl,?_,by omega,by omega⟩,rfl⟩;rw [HM.out]
 have e1:wrap64 (m:Int)=m:=by unfold wrap64;omega
 rw [e1]
 have e2:wrap64 (1+(m:Int))=((m+1:Nat):Int):=by unfold wrap64;omega
 rw [e2];rfl
theorem u64_row1 {w:World} {x:Int}:(w.alloc (.cells #[.int .u64 x] 90 (0,0))).ownsRow w.heap.size 90 1 (.slice (some ⟨w.heap.size,0,none⟩) 1 1) 1 (flatU [x]) :=
 ⟨rfl,.inr ⟨w.heap.size,1,_,rfl,Nat.le_refl _,heap_alloc_new _ _,Nat.le_refl _,by unfold maxLen;omega,rfl,rfl⟩⟩
def wordT (n:Nat) (x:Int):TV:=⟨n,[if n<6 then x % 2 ^ 2 ^ n else x]⟩
structure WordQ (n:Nat) (x:Int) (w:World) (e:Ending) (w':World):Prop where
 ex:∃ (t:TV) (a:Option Addr) (m c:Nat),t=wordT n x/\e=.returned (.agg #[.int .i64 n,.slice a m c])/\TNew w w' (.slice a m c) t/\Upd [] w w'
theorem word_end (n:Nat) (z y x:Int) (w:World) (h6:n<=6) (hy:U64 y) (hlow:n<6->y<2 ^ 2 ^ n) (hz:z=n) (hx:(if n<6 then x % 2 ^ 2 ^ n else x)=y) :
  WordQ n x w (.returned (.agg #[.int .i64 z,.slice (some ⟨w.heap.size+1,0,none⟩) 1 1])) ((w.alloc (.cells #[.int .i64 z,.slice (some ⟨w.heap.size+1,0,none⟩) 1 1] 122 (0,0))).alloc (.cells #[.int .u64 y] 90 (0,0))):=by
 subst hz
 have ok:(TV.mk n [y]).Ok:=by
  refine ⟨by show n<=16;omega,?_,fun x hx=>?_,fun h x hx i hi=>?_⟩
  ·show 1=wordsN n;unfold wordsN;rw [if_pos h6]
  ·simp at hx;subst hx;exact hy
  ·simp at hx;subst hx
   have h1:=hlow h;obtain ⟨m,rfl⟩ : ∃ m:Nat,x=(m:Int):=⟨x.toNat,by have:=hy.1;omega⟩;rw [nb_cast];refine Nat.testBit_lt_two_pow (Nat.lt_of_lt_of_le ?_ (Nat.pow_le_pow_right (by omega) hi))
   exact_mod_cast h1
 have hr:=u64_row1 (w:=w.alloc (.cells #[.int .i64 n,.slice (some ⟨w.heap.size+1,0,none⟩) 1 1] 122 (0,0))) (x:=y);rw [World.size_alloc] at hr;exact ⟨⟨n,[y]⟩,_,_,_,by unfold wordT;rw [hx],rfl,⟨ok,row_base hr (by omega)⟩,((Upd.refl _ _).alloc _).alloc _⟩
theorem word_spec (n:Nat) (x:Int) (w:World) (h1:1<=n) (h6:n<=6) (hx:U64 x):Calls Tryz.prog 100 #[.int .i64 n,.int .u64 x] w fun e w'=>WordQ n x w e w':=by
 have hz:(w.alloc (.cells #[.int .i64 0,.slice none 0 0] 122 (0,0))).heap[w.heap.size]?=some (.cells #[.int .i64 0,.slice none 0 0] 122 (0,0)):=heap_alloc_new _ _;obtain ⟨hx0,hx1⟩:=hx
 obtain rfl | rfl | rfl | rfl | rfl | rfl:n=1\/n=2\/n=3\/n=4\/n=5\/n=6:=by omega
 ·have HE:=Lib.hid (word_end 1 1 (x % 4) x w (by omega) (by unfold U64;omega) (fun _=>by omega) rfl (by simp))
  clear hz
  go_enter Tryz.func100,Tryz.ntmps100
  go_wp2_with fail;refine bodyPost_ret (v:=.agg #[.int .i64 1,.slice (some ⟨w.heap.size+1,0,none⟩) 1 1]) (by simp [results,Tryz.results100,go_sem]) rfl ?_;exact HE.out
 ·have HE:=Lib.hid (word_end 2 2 (x % 16) x w (by omega) (by unfold U64;omega) (fun _=>by omega) rfl (by simp))
  clear hz
  go_enter Tryz.func100,Tryz.ntmps100
  go_wp2_with fail;refine bodyPost_ret (v:=.agg #[.int .i64 2,.slice (some ⟨w.heap.size+1,0,none⟩) 1 1]) (by simp [results,Tryz.results100,go_sem]) rfl ?_;exact HE.out
 ·have HE:=Lib.hid (word_end 3 3 (x % 256) x w (by omega) (by unfold U64;omega) (fun _=>by omega) rfl (by simp))
  clear hz
  go_enter Tryz.func100,Tryz.ntmps100
  go_wp2_with fail;refine bodyPost_ret (v:=.agg #[.int .i64 3,.slice (some ⟨w.heap.size+1,0,none⟩) 1 1]) (by simp [results,Tryz.results100,go_sem]) rfl ?_;exact HE.out
 ·have HE:=Lib.hid (word_end 4 4 (x % 65536) x w (by omega) (by unfold U64;omega) (fun _=>by omega) rfl (by simp))
  clear hz
  go_enter Tryz.func100,Tryz.ntmps100
  go_wp2_with fail;refine bodyPost_ret (v:=.agg #[.int .i64 4,.slice (some ⟨w.heap.size+1,0,none⟩) 1 1]) (by simp [results,Tryz.results100,go_sem]) rfl ?_;exact HE.out
 ·have HE:=Lib.hid (word_end 5 5 (x % 4294967296) x w (by omega) (by unfold U64;omega) (fun _=>by omega) rfl (by simp))
  clear hz
  go_enter Tryz.func100,Tryz.ntmps100
  go_wp2_with fail;refine bodyPost_ret (v:=.agg #[.int .i64 5,.slice (some ⟨w.heap.size+1,0,none⟩) 1 1]) (by simp [results,Tryz.results100,go_sem]) rfl ?_;exact HE.out
 ·have HE:=Lib.hid (word_end 6 6 x x w (by omega) ⟨hx0,hx1⟩ (fun h=>by omega) rfl (by simp))
  clear hz
  go_enter Tryz.func100,Tryz.ntmps100
  go_wp2_with fail;refine bodyPost_ret (v:=.agg #[.int .i64 6,.slice (some ⟨w.heap.size+1,0,none⟩) 1 1]) (by simp [results,Tryz.results100,go_sem]) rfl ?_;exact HE.out
theorem MV.Fit.new {n c:Nat} (hn:n<=8) (hc:c<=1048576):(MV.new n c).Fit :=
 ⟨by simp [MV.new],hn,by simp [MV.new];exact hn,fun x hx=>by simpa [MV.new] using hx,fun t ht=>by simp [MV.new,MV.tabs] at ht,hc⟩
structure Ph1 (n R:Nat) (K:KV) (M:MV) (i:Nat):Prop where
 agr:Agr K M
 fit:M.Fit
 hb:M.held=[]
 us:K.A.used=2
 vr:K.vars=n
 pl:K.A.places=R
 tr:K.trail=M.trail
 tl:M.trail.length<=i
 h0:∀ x,K.hold x=0
 od:M.order.length=M.n
theorem Ph1.new {n R:Nat} (h1:1<=n) (hn:n<=6) (h2:2<=R) (hR:R<=1048576):Ph1 n R (KV.new n R) (MV.new n R) 0:=by
 have hp:=plain_new h1 (by omega) h2 hR;exact ⟨Agr.new h1 (by omega) h2 hR,.new (by omega) hR,rfl,rfl,rfl,rfl,rfl,by simp [MV.new],fun x=>by simp [KV.new,KV.hold],by simp [MV.new]⟩
theorem Ph1.step {n R i:Nat} {K:KV} {M:MV} (h:Ph1 n R K M i) (hk:K.Ok) (l:Int) :
  (M.exchE l=if l<0\/(K.vars:Int)-2<l then 1 else 0)/\((l<0\/(K.vars:Int)-2<l)->M.exch l=M)/\(¬ (l<0\/(K.vars:Int)-2<l)->Ph1 n R (K.exchK l.toNat) (M.exch l) (i+1)):=by
 have hp:=hk.wf.ok.lp;have hu:=hk.wf.ok.us
 have h2:2<=K.A.places:=by have:=h.us;omega
 obtain ⟨e1,e2,e3,e4,e5,e6⟩:=h.agr.exch_bare h.hb h2 l;refine ⟨e1,e4,fun hl=>?_⟩
 have em:M.exch l={ M with order:=turnL M.order l.toNat,trail:=M.trail++[l.toNat] }:=by unfold MV.exch;rw [e1,if_neg hl,if_pos rfl]
 refine ⟨e3 hl,⟨?_,?_,?_,fun x hx=>?_,fun t ht=>?_,?_⟩,e2,h.us,h.vr,h.pl,e6 h.tr hl,by have:=h.tl;omega,h.h0,?_⟩
 ·rw [e2];simp
 ·rw [em];exact h.fit.n6
 ·rw [em];show (turnL M.order _).length<=8;rw [turnL_len];exact h.fit.ol
 ·rw [em] at hx ⊢
  refine h.fit.on x (mem_turnL ?_ hx);have h3:=h.od;have h4:=h.agr.same.n;omega
 ·unfold MV.tabs at ht;rw [e2] at ht;simp at ht
 ·rw [em];exact h.fit.cb
 ·rw [em];show (turnL M.order _).length=M.n;rw [turnL_len];exact h.od
theorem Ph1.mono {n R i j:Nat} {K:KV} {M:MV} (h:Ph1 n R K M i) (hij:i<=j):Ph1 n R K M j:=⟨h.agr,h.fit,h.hb,h.us,h.vr,h.pl,h.tr,Nat.le_trans h.tl hij,h.h0,h.od⟩
theorem Ph1.log {n R i:Nat} {K:KV} {M:MV} (h:Ph1 n R K M i) (hk:K.Ok) (hn:n<=6):WLog K M [0,1] [constT n false,constT n true]/\WAll K [0,1] [constT n false,constT n true]:=by
 have ha:WAll K [0,1] [constT n false,constT n true]:=fun i r t h1 h2=>by
  have key:(r=0/\t=constT n false)\/(r=1/\t=constT n true):=by
   generalize constT n false=c0 at *;generalize constT n true=c1 at *
   cases i with
   | zero=>simp at h1 h2;exact .inl ⟨h1.symm,h2.symm⟩
   | succ i =>
    cases i with
    | zero=>simp at h1 h2;exact .inr ⟨h1.symm,h2.symm⟩
    | succ i=>simp at h1
  rcases key with ⟨e1,e2⟩ | ⟨e1,e2⟩
  ·rw [e1,e2];exact const_names hk false
  ·rw [e1,e2];exact const_names hk true
 refine ⟨⟨h.agr,h.fit,rfl,by simp,⟨[],by rw [h.vr]⟩,fun t ht=>?_,fun i r t h1 h2 _=>ha i r t h1 h2,fun r hr=>?_⟩,ha⟩
 ·rw [h.vr]
  rw [List.mem_cons,List.mem_singleton] at ht
  rcases ht with h1 | h1
  ·rw [h1];exact ⟨mkT_ok _ (by omega),rfl⟩
  ·rw [h1];exact ⟨mkT_ok _ (by omega),rfl⟩
 ·simp at hr;omega
theorem WLog.keepK {K:KV} {M:MV} {refs:List Nat} {tabs:List TV} (l:WLog K M refs tabs) (al:WAll K refs tabs) (hk:K.Ok):WLog (K.keepK 1) M refs tabs/\WAll (K.keepK 1) refs tabs/\K.Ext (K.keepK 1)/\(∀ x,(K.keepK 1).hold x=K.hold x):=by
 have he:K.Ext (K.keepK 1):=⟨fun r p h1 h2=>h1,rfl,rfl,rfl,rfl⟩
 have hd:∀ x,(K.keepK 1).hold x=K.hold x:=fun x=>rfl
 exact ⟨l.no hk he hd,fun i r t h1 h2=>(al i r t h1 h2).ext hk he,he,hd⟩
theorem Agr.clear {K:KV} {M:MV} (h:Agr K M):Agr K { M with trail:=[] }:=⟨⟨h.same.od,h.same.n⟩,h.c,h.nd,h.hl,h.lh⟩
theorem MV.Fit.clear {M:MV} (h:M.Fit):MV.Fit { M with trail:=[] }:=⟨h.hl,h.n6,h.ol,h.on,h.tn,h.cb⟩
theorem WLog.clear {K:KV} {M:MV} {refs:List Nat} {tabs:List TV} (l:WLog K M refs tabs):WLog K { M with trail:=[] } refs tabs :=
 ⟨l.agr.clear,l.fit.clear,l.lr,l.rb,l.t2,l.ok,l.nm,l.r32⟩
theorem ModE.clear {w:World} {m:Nat} {M:MV} {p:MPtr} {Z:List Nat} (h:ModIn w m M p Z) (hz:∀ k,k∈p.all m->k∈Z):ModE m p Z { M with trail:=[] } w (w.setCell ⟨m,4,none⟩ (.slice none 0 0)):=by
 have hu:Upd (p.all m) w (w.setCell ⟨m,4,none⟩ (.slice none 0 0)):=(Upd.refl _ w).setCell (p:=⟨m,4,none⟩) (.inl (MPtr.mem.2 (.inl rfl))) _
 have hs:Sub (p.all m) w (MPtr.all ⟨p.ov,p.hv,.slice none 0 0⟩ m):=fun k hk=>by
  rcases MPtr.mem.1 hk with h | h | h | h
  ·exact .inl (MPtr.mem.2 (.inl h))
  ·exact .inl (MPtr.mem.2 (.inr (.inl h)))
  ·exact .inl (MPtr.mem.2 (.inr (.inr (.inl h))))
  ·simp [Value.ownBlock] at h
 have ne:∀ {v:Value} {e:TypeId} {n sz b:Nat} {xs:List Value},w.ownsRow b e sz v n xs->e≠53->v.ownBlock≠some m:=fun {v e n sz b xs} hr he hv=>by
  obtain ⟨c,f,h1⟩:=row_type hr hv;rw [h.blk] at h1
  injection h1 with h1
  injection h1 with _ h1 _
  exact he h1.symm
 have no:=ne h.os (by decide);obtain ⟨xs,hxs⟩:=h.hs.row;have nh:=ne hxs (by decide);have u1:Upd [m] w (w.setCell ⟨m,4,none⟩ (.slice none 0 0)):=(Upd.refl _ w).setCell (p:=⟨m,4,none⟩) (.inl (by simp)) _;refine ⟨⟨p.ov,p.hv,.slice none 0 0⟩,⟨heap_set_eq (j:=4) h.blk (.slice none 0 0),row_ne h.os (a:=⟨m,4,none⟩) (fun e=>no e.symm) _,?_,World.ownsRow_nil _ _ _ _,fun k _ e=>by simp [Value.ownBlock] at e,fun k hk=>List.mem_append.2 (.inr hk)⟩,hu,hs⟩
 refine (h.hs.keep u1 (fun k hk=>.inl (hz k (by simp at hk;subst hk;exact MPtr.mem.2 (.inl rfl)))) fun k hk hm=>nh (by simp at hm;rw [<- hm];exact hk)).apart fun k hk=>.inl ?_
 rcases List.mem_append.1 hk with hk | hk
 ·exact hk
 ·rcases MPtr.mem.1 hk with h1 | h1 | h1 | h1
  ·exact hz k (MPtr.mem.2 (.inl h1))
  ·exact hz k (MPtr.mem.2 (.inr (.inl h1)))
  ·exact hz k (MPtr.mem.2 (.inr (.inr (.inl h1))))
  ·simp [Value.ownBlock] at h1
structure RowOf (w:World) (k:IntKind) (a:Option Addr) (n:Nat) (zs:List Int):Prop where
 len:zs.length=n
 mx:n<=maxLen
 at_:∀ i,i<n->∃ x,a=some x/\w.cell? (x.add i)=some (.int k (zs.getD i 0))
theorem RowOf.keep0 {w w':World} {k:IntKind} {a:Option Addr} {n:Nat} {zs:List Int} (h:RowOf w k a n zs) (u:Upd [] w w'):RowOf w' k a n zs :=
 ⟨h.len,h.mx,fun i hi=>by obtain ⟨x,e,hc⟩:=h.at_ i hi;exact ⟨x,e,u.cell0 hc⟩⟩
def roomN (r:Int):Nat:=if r<2\/1048576<r then 200 else r.toNat
theorem roomN_lo (r:Int):2<=roomN r/\roomN r<=1048576:=by unfold roomN;split <;> omega
def laysT (v:Nat) (M:MV) (l:List Int):MV:=l.foldl (fun M u=>M.layT (wordT v u)) M
structure LaidX (n room:Int) (ln:Nat) (Ws:List Int) (w:World) (e:Ending) (w':World):Prop where
 ex:∃ (b m:Nat) (rv tv:Value) (K:KV) (F:List Nat) (M:MV) (p:MPtr) (refs:List Nat) (tabs:List TV),e=.returned (.tuple #[worldV b m rv tv,.bool true])/\WMem w' b m rv tv K F M p refs tabs/\WLog K M refs tabs/\WAll K refs tabs /\
  (∀ k,(k∈F\/k∈p.all m\/rv.ownBlock=some k\/tv.ownBlock=some k)->w.heap.size<=k)/\Upd [] w w'/\K.A.places=roomN room/\(∀ x,K.hold x<=8)/\refs.length<=10/\M.held.length<=8/\K.trail=[]/\M.trail=[] /\
  K.vars=varsN n/\(∀ r,r∈refs->r<2\/0<K.hold r)/\(ln=0->M={ laysT (varsN n) (MV.new (varsN n) (roomN room)) (Ws.take 8) with trail:=[] })
theorem exch_at (b:Nat) (l:Int) (K:KV) (F:List Nat) (w:World) (h:KerAt w b K F) (hb:K.A.used=2) (ht:K.trail.length<=1000000) :
  Calls Tryz.prog 29 #[.pointer (some ⟨b,0,none⟩),.int .i64 l] w fun e w' =>
   ∃ (K':KV) (F':List Nat),e=.returned (.int .i64 (if l<0\/(K.vars:Int)-2<l then 1 else 0))/\(((l<0\/(K.vars:Int)-2<l)/\K'=K)\/(¬ (l<0\/(K.vars:Int)-2<l)/\K'=K.exchK l.toNat))/\KerAt w' b K' F'/\Upd F w w'/\Sub F w F':=by
 obtain ⟨T,q,hk,rfl⟩:=h;refine (exchange_bare b l K T q w hk hb ht).mono ?_;rintro e w' hE;obtain ⟨code,K',T',q',rfl,hc,hk',hu,hs⟩:=hE.ex
 rcases hc with ⟨rfl,h1,h2⟩ | ⟨rfl,h1,h2,h3⟩
 ·exact ⟨K',_,by rw [if_pos h1],.inl ⟨h1,h2⟩,⟨T',q',hk',rfl⟩,hu,hs⟩
 ·exact ⟨K',_,by rw [if_neg (by omega)],.inr ⟨by omega,h3⟩,⟨T',q',hk',rfl⟩,hu,hs⟩
theorem keep1_at (b:Nat) (K:KV) (F:List Nat) (w:World) (h:KerAt w b K F) (hh:K.hold 1<65535) :
  Calls Tryz.prog 101 #[.pointer (some ⟨b,0,none⟩),.int .u32 (1:Nat)] w fun e w'=>∃ F':List Nat,e=.returned (.int .i64 0)/\KerAt w' b (K.keepK 1) F'/\Upd F w w'/\Sub F w F':=by
 obtain ⟨T,q,hk,rfl⟩:=h;refine (keep_any b 1 K T q w hk (by omega) (hk.ok.tk_const (by omega))).mono ?_;rintro e w' ⟨code,K',q',rfl,hc,hk',hu,hs⟩
 rcases hc with ⟨rfl,h1,_⟩ | ⟨rfl,_,rfl⟩
 ·omega
 ·exact ⟨_,rfl,⟨T,q',hk',rfl⟩,hu,fun k hk=>.inl (hs k hk)⟩
theorem Fro.cell {n0:Nat} {w w':World} (f:Fro n0 w w') {a:Addr} {v:Value} (h:w.cell? a=some v) (ha:a.block<n0):w'.cell? a=some v :=
 (World.cell?_of_block (f.block _ ha (World.block_lt_of_cell? _ _ h))).trans h
theorem LIn.exch {w1 w2:World} {n0 a b m n R i:Nat} {rv tv:Value} {K K':KV} {F':List Nat} {M:MV} {p:MPtr} {refs:List Nat} {tabs:List TV} {l:Int} (ph:Ph1 n R K M i) (hk:K.Ok)
  (hc:((l<0\/(K.vars:Int)-2<l)/\K'=K)\/(¬ (l<0\/(K.vars:Int)-2<l)/\K'=K.exchK l.toNat)) (h:LIn w1 n0 a b m rv tv K' F' M p refs tabs) (e:ModE m p (F'++p.all m) (M.exch l) w1 w2) :
  ∃ p',LIn w2 n0 a b m rv tv K' F' (M.exch l) p' refs tabs/\Ph1 n R K' (M.exch l) (i+1)/\Fro n0 w1 w2:=by
 obtain ⟨p',h1,h2⟩:=h.model e;obtain ⟨e1,e2,e3⟩:=ph.step hk l;refine ⟨p',h1,?_,h2⟩
 rcases hc with ⟨hb,rfl⟩ | ⟨hb,rfl⟩
 ·rw [e2 hb];exact ph.mono (by omega)
 ·exact e3 hb
structure KM (K:KV) (M:MV):Prop where
 agr:Agr K M
 fit:M.Fit
 tr:K.trail=M.trail
 tf:M.TrFit
theorem level_at (b v:Nat) (K:KV) (F:List Nat) (w:World) (h:KerAt w b K F) (hv:v<K.vars) :
  Calls Tryz.prog 183 #[.pointer (some ⟨b,0,none⟩),.int .i64 v] w fun e w'=>e=.returned (.tuple #[.int .i64 (K.lev v),.int .i64 0])/\w'=w:=by
 obtain ⟨T,q,hk,rfl⟩:=h;have hll:=hk.ok.ord.pm.ll;have hvs:=hk.ok.wf.vs;obtain ⟨g,c,hq,_,_⟩:=hk.mem.ls.form (by omega);have c6:w.cell? ⟨b,6,none⟩=some q.lv:=cell_at hk.mem.blk rfl
 have cl:w.cell? ⟨g,v,none⟩=some (.int .i64 (K.lev v)):=by
  have:=hk.mem.ls;rw [hq] at this;exact row_cell this (by simp [flatN,KV.lev,show v<K.level.length by omega])
 rw [hq] at c6;have HV:=Lib.hid (variable_spec b v K T q w hk.mem);rw [show K.isVar v=true by simp [KV.isVar,hv]] at HV
 have h0:¬ ((v:Int)<0):=by omega
 have hi:(v:Int)<(K.level.length:Int):=by omega
 clear hk hq
 go_enter Tryz.func183,Tryz.ntmps183
 go_wp2_with fail;refine HV.out.mono ?_;rintro e w1 ⟨rfl,rfl⟩;go_wp2_with fail;go_ret2;exact ⟨rfl,rfl⟩
theorem enters_sats2:Enters 185:=fun args w=>by simp [go_sem]
theorem sats_level (b kb r:Nat) (K:KV) (T:List DM) (q:KPtr) (w:World) (h:KerIn w b K T q) (hr:K.A.tk r=true) (hb:w.heap[kb]?=some (.cells #[.pointer (some ⟨b,0,none⟩)] 40 (0,0))) :
  Calls Tryz.prog 182 #[.int .u32 r,.pointer (some ⟨kb,0,none⟩)] w fun e w'=>e=.returned (.int .i64 (K.dep r))/\Upd [] w w':=by
 have k0:=cell_at (j:=0) hb rfl;have hrl:=h.ok.ref_lt hr;have HK:=Lib.hid h
 by_cases h2:r<2
 ·have hd2:decide (r<2)=true:=by simpa using h2
  have HCC:=Lib.hid (cconst_spec r w);rw [hd2] at HCC;have HV:=Lib.hid (vars_at b K _ w ⟨T,q,h,rfl⟩);have HD:=Lib.hid (h.ok.wf.dep_const h2);clear h hr hd2 h2
  go_enter Tryz.func182,Tryz.ntmps182
  go_wp2_with fail;refine HCC.out.mono ?_;rintro e w1 ⟨rfl,rfl⟩;go_wp2_with fail;refine HV.out.mono ?_;rintro e w1 ⟨rfl,rfl⟩;go_wp2_with fail;go_ret;exact ⟨by rw [HD.out];rfl,Upd.refl _ _⟩
 ·obtain ⟨p,v,hp,hpt,hv,hvl,h3,h4,hdp⟩:=h.ok.wf.node_at (by omega) hr
  have hd2:decide (r<2)=false:=by simpa using h2
  have HCC:=Lib.hid (cconst_spec r w);rw [hd2] at HCC
  have HN:Hid (∀ x,Upd [] w x->Calls Tryz.prog 181 #[.pointer (some ⟨b,0,none⟩),.int .u32 r] x fun e w'=>e=.returned (.agg #[.int .i64 (v:Int),.int .u32 p.lo,.int .u32 p.hi])/\Upd [] x w'):=fun x u=>by
   have:=cnode_spec b r K T q p x (HK.out.upd u (by simp)).mem (by omega) hp hpt;rw [hv] at this;exact this
  have HLV:Hid (∀ x,Upd [] w x->Calls Tryz.prog 183 #[.pointer (some ⟨b,0,none⟩),.int .i64 v] x fun e w'=>e=.returned (.tuple #[.int .i64 (K.lev v),.int .i64 0])/\w'=x):=fun x u =>
   level_at b v K _ x ⟨T,q,HK.out.upd u (by simp),rfl⟩ hvl
  have HKB:Hid (∀ x,Upd [] w x->x.cell? ⟨kb,0,none⟩=some (.pointer (some ⟨b,0,none⟩))):=fun x u=>u.cell0 k0
  have HD:=Lib.hid hdp;clear h hr hd2 h2 hp hpt hv hvl h3 h4 hdp
  go_enter Tryz.func182,Tryz.ntmps182
  go_wp2_with fail;refine HCC.out.mono ?_;rintro e w1 ⟨rfl,rfl⟩;go_upto_region 3 with fail;have hfd:=node_field0
  go_region_held3 (fun z=>z.cell? ⟨kb,0,none⟩=some (.pointer (some ⟨b,0,none⟩))) (first | exact HKB.out _ (Upd.refl _ _).drew | exact HKB.out _ HU1.out) (first
   | (go_at_call 181;refine (HN.out _ (Upd.refl _ _).drew).mono ?_;rintro e w2 ⟨rfl,hu⟩;have HU1:=Lib.hid hu.of_drew;clear hu)
   | (go_at_call 183;refine (HLV.out _ HU1.out).mono ?_;rintro e w3 ⟨rfl,rfl⟩))
  go_wp2_with fail;go_ret;exact ⟨by rw [HD.out];rfl,HU1.out⟩
theorem cb_sats (b kb lb r:Nat) (p:PlaceV) (K:KV) (T:List DM) (q:KPtr) (w:World) (h:KerIn w b K T q) (hb:w.heap[kb]?=some (.cells #[.pointer (some ⟨b,0,none⟩)] 40 (0,0)))
  (hl:w.heap[lb]?=some (.cells #[.func (Fn.func 182) #[] #[.pointer (some ⟨kb,0,none⟩)]] 158 (0,0))) (h2:2<=r) (hp:K.A.list[r]?=some p) (hpt:p.taken=true) :
  Calls Tryz.prog 185 #[.agg #[.int .i64 p.var,.int .u32 p.lo,.int .u32 p.hi],.int .u64 (u64m (K.satR p.lo)),.int .u64 (u64m (K.satR p.hi)),.pointer (some ⟨kb,0,none⟩),.pointer (some ⟨lb,0,none⟩)] w fun e w'=>e=.returned (.int .u64 (u64m (K.satR r)))/\Upd [] w w':=by
 obtain ⟨p',v,hp',_,hv,hvl,h3,h4,hdp⟩:=h.ok.wf.node_at h2 (ArenaV.tk_iff.2 ⟨p,hp,hpt⟩);rw [hp] at hp';obtain rfl:p=p':=Option.some.inj hp';have hbl:=h.ok.ord.below h.ok.wf h2 hp hpt;have hd1:=h.ok.wf.dep_le h.ok.ord h3;have hd2:=h.ok.wf.dep_le h.ok.ord h4;have hvs:=h.ok.wf.vs;rw [hdp] at hbl;have HSN:=Lib.hid (KV.satR_node h.ok.wf h.ok.ord h2 hp hpt);have HDP:=Lib.hid hdp;have hU1:Upd [] w (w.alloc (.cells #[.int .i64 (v:Int),.int .u32 p.lo,.int .u32 p.hi] 116 (0,0))):=(Upd.refl _ _).alloc _;have hbx:=heap_alloc_new w (.cells #[.int .i64 (v:Int),.int .u32 p.lo,.int .u32 p.hi] 116 (0,0))
 have HLV:Hid (∀ x,Upd [] w x->Calls Tryz.prog 183 #[.pointer (some ⟨b,0,none⟩),.int .i64 v] x fun e w'=>e=.returned (.tuple #[.int .i64 (K.lev v),.int .i64 0])/\w'=x):=fun x u =>
  level_at b v K _ x ⟨T,q,h.upd u (by simp),rfl⟩ hvl
 have HLO:Hid (∀ x,Upd [] w x->Calls Tryz.prog 182 #[.int .u32 p.lo,.pointer (some ⟨kb,0,none⟩)] x fun e w'=>e=.returned (.int .i64 (K.dep p.lo))/\Upd [] x w'):=fun x u =>
  sats_level b kb p.lo K T q x (h.upd u (by simp)) h3 ((u.block kb (heap_lt hb) (by simp)).trans hb)
 have HHI:Hid (∀ x,Upd [] w x->Calls Tryz.prog 182 #[.int .u32 p.hi,.pointer (some ⟨kb,0,none⟩)] x fun e w'=>e=.returned (.int .i64 (K.dep p.hi))/\Upd [] x w'):=fun x u =>
  sats_level b kb p.hi K T q x (h.upd u (by simp)) h4 ((u.block kb (heap_lt hb) (by simp)).trans hb)
 have HKB:Hid (∀ x,Upd [] (w.alloc (.cells #[.int .i64 (v:Int),.int .u32 p.lo,.int .u32 p.hi] 116 (0,0))) x->x.cell? ⟨lb,0,none⟩=some (.func (Fn.func 182) #[] #[.pointer (some ⟨kb,0,none⟩)])/\x.cell? ⟨w.heap.size,1,none⟩=some (.int .u32 p.lo)/\x.cell? ⟨w.heap.size,2,none⟩=some (.int .u32 p.hi)):=fun x u =>
  ⟨u.cell0 (hU1.cell0 (cell_at (j:=0) hl rfl)),u.cell0 (cell_at (j:=1) hbx rfl),u.cell0 (cell_at (j:=2) hbx rfl)⟩
 have k0:=hU1.cell0 (cell_at (j:=0) hb rfl);have k1:=cell_at (j:=0) hbx rfl;have HU1:=Lib.hid hU1;rw [hv];have HG:=Lib.hid (And.intro (rfl:u64m (K.satR p.lo)=u64m (K.satR p.lo)) (rfl:u64m (K.satR p.hi)=u64m (K.satR p.hi)));obtain ⟨glo,hglo⟩ : ∃ g,u64m (K.satR p.lo)=g:=⟨_,rfl⟩;obtain ⟨ghi,hghi⟩ : ∃ g,u64m (K.satR p.hi)=g:=⟨_,rfl⟩;obtain ⟨dl,hdl⟩ : ∃ g,K.dep p.lo=g:=⟨_,rfl⟩;obtain ⟨dh,hdh⟩ : ∃ g,K.dep p.hi=g:=⟨_,rfl⟩;obtain ⟨l,hll⟩ : ∃ g,K.lev v=g:=⟨_,rfl⟩;rw [hglo,hghi];rw [hdl] at HLO hd1 hbl;rw [hdh] at HHI hd2 hbl;rw [hll] at HLV hbl;have HE:=Lib.hid (And.intro hglo (And.intro hghi (And.intro hdl (And.intro hdh hll))));obtain ⟨hb1,hb2⟩:=hbl;obtain ⟨c1,hc1⟩ : ∃ c1,dl-l=c1:=⟨_,rfl⟩;obtain ⟨c2,hc2⟩ : ∃ c2,dh-l=c2:=⟨_,rfl⟩;obtain ⟨n1,hn1⟩ : ∃ n1,dl-l-1=n1:=⟨_,rfl⟩;obtain ⟨n2,hn2⟩ : ∃ n2,dh-l-1=n2:=⟨_,rfl⟩
 have m1:n1<=63:=by omega
 have m2:n2<=63:=by omega
 have s1:IntKind.i64.wrap ((dl:Int)-(l:Int))=(c1:Int):=by rw [IntWalk.i64_in _ (by omega)];omega
 have s2:IntKind.i64.wrap ((dh:Int)-(l:Int))=(c2:Int):=by rw [IntWalk.i64_in _ (by omega)];omega
 have s3:IntKind.i64.wrap ((c1:Int)-1)=(n1:Int):=by rw [IntWalk.i64_in _ (by omega)];omega
 have s4:IntKind.i64.wrap ((c2:Int)-1)=(n2:Int):=by rw [IntWalk.i64_in _ (by omega)];omega
 have HN:=Lib.hid (And.intro hn1 hn2)
 have HFI:Hid (IntKind.u64.wrap (IntKind.u64.wrap (glo*2 ^ n1)+IntKind.u64.wrap (ghi*2 ^ n2))=u64m (K.satR r)):=by
  show _=_
  have e2:∀ n:Nat,(2:Int) ^ n=((2 ^ n:Nat):Int):=fun n=>by simp
  rw [HSN.out,e2,e2,<- hglo,<- hghi,u64m_mul,u64m_mul,u64m_add,HDP.out,hdl,hdh,hll,hn1,hn2,Nat.mul_comm,Nat.mul_comm (K.satR p.hi)]
 clear hc1 hc2 hn1 hn2;clear h hb hl h2 hp hpt hv hvl h3 h4 hdp hbx hU1 hglo hghi hdl hdh hll hp' HG
 go_enter Tryz.func185,Tryz.ntmps185
 go_wp2_with fail;refine (HLV.out _ HU1.out).mono ?_;rintro e w1 ⟨rfl,rfl⟩;go_upto_region 2 with fail;generalize w.alloc (.cells #[.int .i64 (v:Int),.int .u32 p.lo,.int .u32 p.hi] 116 (0,0))=wA at *;generalize w.heap.size=B at *;clear k0 k1
 go_region_held3 (fun z=>z.cell? ⟨lb,0,none⟩=some (.func (Fn.func 182) #[] #[.pointer (some ⟨kb,0,none⟩)])/\z.cell? ⟨B,1,none⟩=some (.int .u32 p.lo)/\z.cell? ⟨B,2,none⟩=some (.int .u32 p.hi)) (first | exact HKB.out _ (Upd.refl _ _).drew | exact HKB.out _ HA2.out | exact HKB.out _ HA1.out) (first
  | ((with_reducible refine (HLO.out _ HU1.out.drew).mono ?_);rintro e w3 ⟨rfl,hu⟩;have HA1:=Lib.hid hu.of_drew;clear hu)
  | ((with_reducible refine (HHI.out _ (HU1.out.trans HA1.out)).mono ?_);rintro e w4 ⟨rfl,hu⟩;have HA2:=Lib.hid (HA1.out.trans hu);clear hu))
 go_wp2_with fail;go_ret;exact ⟨by rw [<- HFI.out];rfl,HU1.out.trans HA2.out⟩
theorem sats_spec (b f:Nat) (K:KV) (T:List DM) (q:KPtr) (w:World) (h:KerIn w b K T q) (hf:K.A.tk f=true) :
  Calls Tryz.prog 113 #[.pointer (some ⟨b,0,none⟩),.int .u32 f] w fun e w'=>AskQ2 b K T q (.int .u64 (u64m (satL K.order (K.den f)))) w e w':=by
 have hmf:∀ (fn:Fn) (first cap:Array Value) (w:World),(Instr.makeFunc fn first cap).run Tryz.prog w=.ok (.func fn first cap) w:=fun _ _ _ _=>rfl
 have hsf:∀ (a:Addr) (m:Mode) (fn:Fn) (first cap:Array Value) (w:World),(store a (.func fn first cap) m).run Tryz.prog w=stored Tryz.prog w a (.func fn first cap) m:=fun a m fn first cap w=>run_store Tryz.prog w a _ m rfl
 have HK:=Lib.hid h;have HF:=Lib.hid hf;have hvs:=h.ok.wf.vs;have hdl:=h.ok.wf.dep_le h.ok.ord hf;have HALL:=Lib.hid (KV.satR_all h.ok.wf h.ok.ord hf)
 have HL:Hid (∀ r,r∈[f]->K.A.tk r=true):=fun r hr=>by
  simp only [List.mem_singleton] at hr;subst hr;exact hf
 have hb0:=heap_alloc_new w (.cells #[.pointer (some ⟨b,0,none⟩)] 40 (0,0));have HU0:=Lib.hid ((Upd.refl [] w).alloc (.cells #[.pointer (some ⟨b,0,none⟩)] 40 (0,0)));obtain ⟨kb,hkb⟩ : ∃ kb,w.heap.size=kb:=⟨_,rfl⟩;rw [hkb] at hb0;have HKBE:=Lib.hid hkb;obtain ⟨w0,hw0⟩ : ∃ w0,w.alloc (.cells #[.pointer (some ⟨b,0,none⟩)] 40 (0,0))=w0:=⟨_,rfl⟩;rw [hw0] at hb0 HU0;have HW0:=Lib.hid hw0;have HB0:=Lib.hid hb0;have k0:=cell_at (j:=0) hb0 rfl;clear h hf hkb hw0
 go_enter Tryz.func113,Tryz.ntmps113
 go_upto_region 1 with fail;rw [HW0.out,HKBE.out];go_wp2_with fail;refine (clive_ok b K T q _ [f] _ (HK.out.upd (HU0.out.alloc _) (by simp)) (row_one w0 f) HL.out (by simp)).mono ?_;rintro e w1 ⟨rfl,hu⟩;have HU1:=Lib.hid (((Upd.refl [] w0).alloc _).trans hu);have k1:=HU1.out.cell0 k0;have hb1:w1.heap[kb]?=_:=(HU1.out.block kb (heap_lt HB0.out) (by simp)).trans HB0.out;have hlb:=heap_alloc_new w1 (.cells #[.func (Fn.func 182) #[] #[.pointer (some ⟨kb,0,none⟩)]] 158 (0,0));obtain ⟨w2,hw2⟩ : ∃ w2,w1.alloc (.cells #[.func (Fn.func 182) #[] #[.pointer (some ⟨kb,0,none⟩)]] 158 (0,0))=w2:=⟨_,rfl⟩
 have hu2:Upd [] w1 w2:=by rw [<- hw2];exact (Upd.refl _ _).alloc _
 rw [hw2] at hlb;have HW2:=Lib.hid hw2;have HU2:=Lib.hid (HU1.out.trans hu2);have hb2:w2.heap[kb]?=_:=(hu2.block kb (heap_lt hb1) (by simp)).trans hb1;have k2:=cell_at (j:=0) hb2 rfl;have l2:=cell_at (j:=0) hlb rfl;have HM2:=Lib.hid (And.intro hb2 hlb);clear hu hu2 hw2 hb1 hb2 hlb k0 hb0;go_upto_region 5 with fail;rw [HW2.out];generalize w1.heap.size=lb at *
 have HCB:Hid (FoldCb 185 #[.pointer (some ⟨kb,0,none⟩),.pointer (some ⟨lb,0,none⟩)] K (fun r=>u64m (K.satR r)) (fun z=>Upd [] w2 z)):=fun z r p hz h2 hp hpt =>
  cb_sats b kb lb r p K T q z (HK.out.upd ((HU0.out.trans HU2.out).trans hz) (by simp)) ((hz.block kb (heap_lt HM2.out.1) (by simp)).trans HM2.out.1) ((hz.block lb (heap_lt HM2.out.2) (by simp)).trans HM2.out.2) h2 hp hpt
 clear k1;go_wp2_with fail;refine (fold_spec b 185 f #[.pointer (some ⟨kb,0,none⟩),.pointer (some ⟨lb,0,none⟩)] K T q (fun r=>u64m (K.satR r)) w2 (HK.out.upd (HU0.out.trans HU2.out) (by simp)) enters_sats2 HCB.out (fun x=>u64m_wf _) (by rw [KV.satR_const HK.out.ok.wf HK.out.ok.ord (by omega)];exact u64m_small (by omega)) (by rw [KV.satR_const HK.out.ok.wf HK.out.ok.ord (by omega)];exact u64m_small (by omega)) HF.out).mono ?_;rintro e w3 ⟨rfl,hu,hk3⟩;have l3:=hu.cell0 l2;have hb3:w3.heap[kb]?=_:=(hu.block kb (heap_lt HM2.out.1) (by simp)).trans HM2.out.1;have HLV:=Lib.hid (sats_level b kb f K T q w3 hk3 HF.out hb3);have HE:=Lib.hid (And.intro hk3 ((HU0.out.trans HU2.out).trans hu));obtain ⟨g,hg⟩ : ∃ g,u64m (K.satR f)=g:=⟨_,rfl⟩;obtain ⟨d,hd⟩ : ∃ d,K.dep f=d:=⟨_,rfl⟩
 simp only [hg]
 rw [hd] at hdl HLV
 have HFI:Hid (IntKind.u64.wrap (g*2 ^ d)=u64m (satL K.order (K.den f))):=by
  show _=_
  have e2:∀ n:Nat,(2:Int) ^ n=((2 ^ n:Nat):Int):=fun n=>by simp
  rw [HALL.out,e2,<- hg,u64m_mul,hd,Nat.mul_comm]
 have hd64:d<=64:=by omega
 clear hu hk3 hb3 k2 l2 hg hd;go_wp2_with fail;refine HLV.out.mono ?_;rintro e w4 ⟨rfl,hu⟩;have HE4:Hid (KerIn w4 b K T q/\Upd [] w w4):=⟨HE.out.1.upd hu (by simp),HE.out.2.trans hu⟩;clear hu;go_wp2_with fail;go_ret2;exact ⟨by rw [<- HFI.out];rfl,HE4.out.1,HE4.out.2⟩
theorem satL_swap (u v:Nat) (vs:List Nat) (F:(Nat->Bool)->Bool):satL (u::v::vs) F=satL (v::u::vs) F:=by
 by_cases e:u=v
 ·subst e;rfl
 ·have hc:∀ (y:Nat->Bool) (a b:Bool),upd (upd y v b) u a=upd (upd y u a) v b:=fun y a b=>by
   funext x;unfold upd
   by_cases h1:x=u
   ·subst h1;simp [e]
   ·simp [h1]
  simp only [satL]
  simp only [hc]
  omega
theorem satL_perm {vs us:List Nat} (h:vs.Perm us):∀ F:(Nat->Bool)->Bool,satL vs F=satL us F:=by
 induction h with
 | nil=>intro F;rfl
 | cons x _ ih=>intro F;simp only [satL];rw [ih,ih]
 | swap x y l=>intro F;exact satL_swap _ _ _ _
 | trans _ _ h1 h2=>intro F;rw [h1,h2]
theorem KV.Ok.perm_range {K:KV} (hk:K.Ok):K.order.Perm (List.range K.vars):=by
 have hnd:K.order.Nodup:=by
  refine List.pairwise_iff_getElem.2 fun i j hi hj hij e=>?_
  have a:=hk.ord.pm.at_order (List.getElem?_eq_getElem hi);have c:=hk.ord.pm.at_order (List.getElem?_eq_getElem hj);rw [e] at a;omega
 refine (List.perm_ext_iff_of_nodup hnd List.nodup_range).2 fun v=>?_
 rw [List.mem_range];exact ⟨fun h=>hk.ord.pm.mem_order h,fun h=>List.mem_of_getElem? (hk.ord.pm.order_at h)⟩
theorem KV.Ok.sat_range {K:KV} (hk:K.Ok) (F:(Nat->Bool)->Bool):satL K.order F=satL (List.range K.vars) F:=satL_perm hk.perm_range F
end Go.Proofs.YtfkopmhpppeheaaGreat
namespace Go.Proofs.YtfkopmhpppeheaaGreat
open Go.RowKit
def cntB (P:Nat->Bool):Nat->Nat
 | 0=>0
 | n+1=>cntB P n+if P n then 1 else 0
theorem cntB_le (P:Nat->Bool):∀ n,cntB P n<=n
 | 0=>Nat.le_refl _
 | n+1=>by have:=cntB_le P n;unfold cntB;split <;> omega
theorem cntB_congr {P Q:Nat->Bool}:∀ {n:Nat},(∀ i,i<n->P i=Q i)->cntB P n=cntB Q n
 | 0,_=>rfl
 | n+1,h=>by
  unfold cntB;rw [cntB_congr fun i hi=>h i (by omega),h n (by omega)]
theorem cntB_add (P:Nat->Bool) (a:Nat):∀ b:Nat,cntB P (a+b)=cntB P a+cntB (fun i=>P (a+i)) b
 | 0=>rfl
 | b+1=>by
  have:=cntB_add P a b
  show cntB P (a+b)+_=_+(cntB _ b+_)
  rw [this,Nat.add_assoc];rfl
theorem cntB_const (b:Bool):∀ n,cntB (fun _=>b) n=if b then n else 0
 | 0=>by cases b <;> rfl
 | n+1=>by
  unfold cntB
  rw [cntB_const b n];cases b <;> simp
theorem range_perm (n:Nat):(List.range (n+1)).Perm (n::List.range n):=by
 rw [List.range_succ];exact List.perm_append_comm (l₁:=List.range n) (l₂:=[n])
theorem satL_succ (n:Nat) (F:(Nat->Bool)->Bool):satL (List.range (n+1)) F=satL (List.range n) (fun y=>F (upd y n false))+satL (List.range n) (fun y=>F (upd y n true)):=satL_perm (range_perm n) F
theorem cntB_sat:∀ (n:Nat) (F:(Nat->Bool)->Bool),cntB (fun x=>F fun v=>x.testBit v) (2 ^ n)=satL (List.range n) F
 | 0,F=>by
  have e:(fun v=>(0:Nat).testBit v)=fun _=>false:=by funext v;simp
  show cntB _ 1=_
  simp [cntB,satL]
 | n+1,F=>by
  rw [satL_succ,show (2:Nat) ^ (n+1)=2 ^ n+2 ^ n by rw [Nat.pow_succ];omega,cntB_add,<- cntB_sat n,<- cntB_sat n]
  congr 1
  ·refine cntB_congr fun x hx=>?_
   congr 1
   funext v
   unfold upd;split
   ·rename_i h;subst h;exact Nat.testBit_lt_two_pow hx
   ·rfl
  ·refine cntB_congr fun x hx=>?_
   congr 1
   funext v
   rw [Nat.add_comm,tb_add (Nat.testBit_lt_two_pow hx)];unfold upd;rfl
def TV.sats (t:TV):Nat:=cntB t.bit (2 ^ t.n)
theorem TV.sats_fn (t:TV):t.sats=satL (List.range t.n) t.fn:=by
 rw [<- cntB_sat]
 refine cntB_congr fun x hx=>?_
 unfold TV.fn;rw [idx_of hx]
theorem TV.sats_le (t:TV):t.sats<=2 ^ t.n:=cntB_le _ _
theorem idx_nb (n:Nat) (x:Int):idx n (fun v=>nb x v)=x.toNat % 2 ^ n:=by
 apply Nat.eq_of_testBit_eq
 intro v
 rw [idx_bit,Nat.testBit_mod_two_pow];rfl
theorem Names.sats {K:KV} (hk:K.Ok) {r:Nat} {t:TV} (h:Names K r t) (hn:t.n=K.vars):satL K.order (K.den r)=t.sats:=by
 rw [TV.sats_fn,hk.sat_range,hn];exact satL_congr _ h.2
theorem Names.eval {K:KV} {r:Nat} {t:TV} (h:Names K r t) (x:Int):(K.den r fun v=>nb x v)=t.bit (x.toNat % 2 ^ t.n):=by
 rw [h.2];unfold TV.fn;rw [idx_nb]
theorem Names.top {K:KV} {M:MV} (hs:Same K M) (hk:K.Ok) (hu:K.Uni) {r:Nat} {p:PlaceV} {t:TV} (h:Names K r t) (ht:t.Ok) (hn:t.n=K.vars) (h2:2<=r) (hp:K.A.list[r]?=some p) (_hpt:p.taken=true):M.top t=some p.var.toNat:=by
 obtain ⟨v,hv,hd,hh,hno⟩:=hk.node_hangs hu h2 h.1;obtain ⟨p',v',hp',_,hv',hvl',_,_,hd'⟩:=hk.wf.node_at h2 h.1
 rw [hp] at hp';cases hp'
 have e:K.den r=t.fn:=funext h.2;rw [e] at hh hno
 have hvv:v=v':=by
  have a:=(hk.ord.pm.lo v hv).2;have b:=(hk.ord.pm.lo v' hvl').2
  rw [<- hd,hd',b] at a;exact a.symm
 have hl:=hk.ord.pm.order_at hv;unfold MV.top;rw [hs.od];rw [show p.var.toNat=v by omega]
 refine find_take hl ((depT_iff ht (by omega)).2 hh) fun x hx=>?_
 obtain ⟨hx1,hx2⟩:=hk.ord.pm.mem_take.1 hx;have:=hno x hx1 hx2
 cases hd:depT t x with
 | false=>rfl
 | true=>exact absurd ((depT_iff ht (by omega)).1 hd) this
theorem Names.kid {K:KV} (hk:K.Ok) {r:Nat} {p:PlaceV} {t:TV} (h:Names K r t) (hn:t.n=K.vars) (h2:2<=r) (hp:K.A.list[r]?=some p) (hpt:p.taken=true) (b:Bool):Names K (if b then p.hi else p.lo) (cofT t p.var.toNat b):=by
 have hc:=hk.wf.cl r p h2 hp hpt;have hvr:=hk.wf.vr r p h2 hp hpt;refine ⟨by cases b;exact hc.1;exact hc.2,fun y=>?_⟩;rw [hk.kid_den h2 hp hpt,h.2,cofT_fn (by omega)]
theorem way_le {K:KV} (hk:K.Ok):∀ (n r:Nat),K.vars-K.dep r<=n->K.A.tk r=true->K.way r<=2 ^ n:=by
 intro n
 induction n with
 | zero =>
  intro r hn ht
  by_cases h2:2<=r
  ·have:=hk.wf.dep_lt hk.ord h2 ht;omega
  ·rw [K.way_const (by omega)];omega
 | succ n ih =>
  intro r hn ht
  by_cases h2:2<=r
  ·obtain ⟨p,hp,hpt⟩:=ArenaV.tk_iff.1 ht
   have hb:=hk.ord.below hk.wf h2 hp hpt;have hc:=hk.wf.cl r p h2 hp hpt;have hl:=hk.wf.dep_lt hk.ord h2 ht;rw [KV.way_node hk.wf hk.ord h2 hp hpt,show (2:Nat) ^ (n+1)=2 ^ n+2 ^ n by rw [Nat.pow_succ];omega];have a:=ih p.lo (by omega) hc.1;have c:=ih p.hi (by omega) hc.2;omega
  ·rw [K.way_const (by omega)]
   have:=Nat.two_pow_pos (n+1)
   have e:(2:Nat) ^ (n+1)=2 ^ n+2 ^ n:=by rw [Nat.pow_succ];omega
   have:=Nat.two_pow_pos n;omega
end Go.Proofs.YtfkopmhpppeheaaGreat
