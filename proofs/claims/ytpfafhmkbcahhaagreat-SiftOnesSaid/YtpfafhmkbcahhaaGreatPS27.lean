import Derived.Test.YtpfafhmkbcahhaaGreatPS26
import Derived.Test.YtpfafhmkbcahhaaGreatPS16
import Derived.Test.YtpfafhmkbcahhaaGreatPS25
namespace Go.Proofs.YtpfafhmkbcahhaaGreat
open Go.RowKit Go.Maps Go.ChangeMaps Go.WideShapes
def WAll (K:KV) (refs:List Nat) (tabs:List TV):Prop:=∀ (i r:Nat) (t:TV),refs[i]?=some r→tabs[i]?=some t→Names K r t
theorem MV.Fit.hold1 {M:MV} (h:M.Fit) (hl:M.held.length + 1≤65536) {t:TV} (ht:t.Ok) (hn:t.n=M.n):(M.hold1 t).Fit:=by
  unfold MV.hold1;split
  · exact h
  · split
    · exact h
    · refine ⟨?_,h.n6,h.ol,h.on,fun u hu=>?_,h.cb⟩
      · have:=incL_len M.held t
        show (incL M.held t).length≤_
        omega
      · have hk:=incL_keys M.held t
        have hu':u∈(incL M.held t).map (·.1):=hu;rw [hk] at hu'
        split at hu'
        · exact h.tn u hu'
        · rcases List.mem_append.1 hu' with h1 | h1
          · exact h.tn u h1
          · simp at h1; subst h1; exact ⟨ht,hn⟩
theorem WLog.no {K K1:KV} {M:MV} {refs:List Nat} {tabs:List TV} (l:WLog K M refs tabs) (hk:K.Ok) (e:K.Ext K1) (hd:∀ x,K1.hold x=K.hold x):WLog K1 M refs tabs :=
  ⟨l.agr.same_kernel hk e hd,l.fit,l.lr,l.rb,by rw [e.vr]; exact l.t2,fun t ht=>by rw [e.vr]; exact l.ok t ht,fun i r t h1 h2 h3=>(l.nm i r t h1 h2 h3).ext hk e,l.r32⟩
theorem WLog.yes {K K1:KV} {M:MV} {refs:List Nat} {tabs:List TV} (l:WLog K M refs tabs) (al:WAll K refs tabs) (hk:K.Ok) (hu:K.Uni) (hk1:K1.Ok) (hu1:K1.Uni) (hn:K.vars≤16) {t:TV} (ht:t.Ok) (htn:t.n=K.vars) (e:K.Ext K1) {r:Nat} (hr:Names K1 r t)
    (hd:∀ x,K1.hold x=K.hold x + if x=r∧2≤r then 1 else 0) (hl:M.held.length + 1≤65536) (hb:refs.length + 1≤1000):M.hold1E t=0∧WLog K1 (M.hold1 t) (refs ++ [r]) (tabs ++ [t])∧WAll K1 (refs ++ [r]) (tabs ++ [t]):=by
  have hs:=l.agr.step hk hu hk1 hu1 hn ht htn e hr hd
  have ha:WAll K1 (refs ++ [r]) (tabs ++ [t]):=fun i q u h1 h2=>by
    by_cases hi:i < refs.length
    · rw [List.getElem?_append_left hi] at h1
      rw [List.getElem?_append_left (by rw [← l.lr]; exact hi)] at h2;exact (al i q u h1 h2).ext hk e
    · rw [List.getElem?_append_right (by omega)] at h1
      rw [List.getElem?_append_right (by rw [← l.lr]; omega),← l.lr] at h2
      cases h3:i - refs.length with
      | zero=>rw [h3] at h1 h2; simp at h1 h2; subst h1 h2; exact hr
      | succ j=>rw [h3] at h1; simp at h1
  obtain ⟨rest,hrest⟩:=l.t2;refine ⟨hs.1,⟨hs.2,l.fit.hold1 hl ht (htn.trans l.agr.same.n.symm),by simp [l.lr],by simpa using hb,⟨rest ++ [t],by rw [hrest,e.vr]; rfl⟩,fun u hu'=>?_,fun i q u h1 h2 _=>ha i q u h1 h2,fun q hq=>?_⟩,ha⟩
  · rw [e.vr]
    rcases List.mem_append.1 hu' with h | h
    · exact l.ok u h
    · simp at h; subst h; exact ⟨ht,htn⟩
  · rcases List.mem_append.1 hq with h | h
    · exact l.r32 q h
    · simp at h; subst h; have:=hk1.ref_lt hr.1; omega
theorem MV.hold1_len (M:MV) (t:TV):(M.hold1 t).held.length≤M.held.length + 1:=by
  unfold MV.hold1;split
  · omega
  · split
    · omega
    · exact incL_len _ _
theorem MV.hold1_trail (M:MV) (t:TV):(M.hold1 t).trail=M.trail:=by
  unfold MV.hold1; split
  · rfl
  · split <;> rfl
theorem ty_ne {w:World} {b1 b2:Nat} {e1 e2:TypeId} {z1 z2 n1 n2:Nat} {v1 v2:Value} {xs ys:List Value} (h1:w.ownsRow b1 e1 z1 v1 n1 xs) (h2:w.ownsRow b2 e2 z2 v2 n2 ys) (hne:e1≠e2) {k:Nat} (k1:v1.ownBlock=some k) (k2:v2.ownBlock=some k):False:=by
  obtain ⟨c1,f1,a1⟩:=row_type h1 k1;obtain ⟨c2,f2,a2⟩:=row_type h2 k2;rw [a1] at a2
  injection a2 with a2; injection a2 with _ a2 _; exact hne a2
theorem blk_ne {w:World} {b1:Nat} {e1 e2:TypeId} {z1 n1 k:Nat} {v1:Value} {xs:List Value} {cs:Array Value} {fr:Nat × Nat} (h1:w.ownsRow b1 e1 z1 v1 n1 xs) (h2:w.heap[k]?=some (.cells cs e2 fr)) (hne:e1≠e2):v1.ownBlock≠some k:=fun k1=>by
  obtain ⟨c1,f1,a1⟩:=row_type h1 k1;rw [a1] at h2
  injection h2 with a2; injection a2 with _ a2 _; exact hne a2
theorem row_grow {w5 y w6:World} {o:Option Nat} {b:Nat} {e:TypeId} {sz n:Nat} {v:Value} {xs:List Value} (u:Upd [] w5 y) (g:y.grownBy w6 o) (h:w5.ownsRow b e sz v n xs) (hne:∀ k,v.ownBlock=some k→o=some k→False):w6.ownsRow b e sz v n xs :=
  row_keep h fun k hk=>(g.block k (Nat.lt_of_lt_of_le (h.lt k hk).2 u.size) (fun e=>hne k hk e.symm)).trans (u.block k (h.lt k hk).2 (by simp))
theorem app_at {w y:World} {S:List Nat} {o:Option Nat} {g:Nat} (u:Upd S w y) (h:o=some g∨g=y.heap.size):o=some g∨w.heap.size≤g:=h.imp id fun e=>by rw [e]; exact u.size
theorem LIn.push {w w6:World} {n0 a b m g1 cap1 g2 cap2 r:Nat} {rv tv c:Value} {K:KV} {F:List Nat} {M:MV} {p:MPtr} {refs:List Nat} {tabs:List TV} {t:TV} {cs:List Value} (h:LIn w n0 a b m rv tv K F M p refs tabs)
    (u:Upd (rv.ownBlock.toList ++ tv.ownBlock.toList) w w6) (e1:cs.length=tabs.length) (e3:∀ (i:Nat) (t:TV) (c:Value),tabs[i]?=some t→cs[i]?=some c→TIn w (F ++ p.all m) c t)
    (o1:w6.ownsRow 0 54 1 (.slice (some ⟨g1,0,none⟩) (refs.length + 1) cap1) (refs.length + 1) (flatRefs refs ++ [.int .u32 r]))
    (o2:w6.ownsRow 0 56 2 (.slice (some ⟨g2,0,none⟩) (tabs.length + 1) cap2) (tabs.length + 1) (flatTT tabs cs ++ [.int .i64 t.n,c]))
    (at1:rv.ownBlock=some g1∨w.heap.size≤g1) (at2:tv.ownBlock=some g2∨w.heap.size≤g2) (ht:TIn w (F ++ p.all m) c t) :
    LIn ((w6.setCell ⟨a,2,none⟩ (.slice (some ⟨g1,0,none⟩) (refs.length + 1) cap1)).setCell ⟨a,3,none⟩ (.slice (some ⟨g2,0,none⟩) (tabs.length + 1) cap2)) n0 a b m (.slice (some ⟨g1,0,none⟩) (refs.length + 1) cap1) (.slice (some ⟨g2,0,none⟩) (tabs.length + 1) cap2) K F M p (refs ++ [r]) (tabs ++ [t]) ∧
    Fro n0 w ((w6.setCell ⟨a,2,none⟩ (.slice (some ⟨g1,0,none⟩) (refs.length + 1) cap1)).setCell ⟨a,3,none⟩ (.slice (some ⟨g2,0,none⟩) (tabs.length + 1) cap2)):=by
  have hz:=h.mem.z;have hal:=heap_lt h.blk;obtain ⟨xs,hxs⟩:=h.mem.tt.row;have na1:=blk_ne h.mem.rr h.blk (by decide);have na2:=blk_ne hxs h.blk (by decide)
  have hblk6:w6.heap[a]?=_:=(u.block a hal fun hm=>by
    rcases List.mem_append.1 hm with hm | hm
    · exact na1 (by simpa using hm)
    · exact na2 (by simpa using hm)).trans h.blk
  have u2:Upd (a :: (rv.ownBlock.toList ++ tv.ownBlock.toList)) w ((w6.setCell ⟨a,2,none⟩ (.slice (some ⟨g1,0,none⟩) (refs.length + 1) cap1)).setCell ⟨a,3,none⟩ (.slice (some ⟨g2,0,none⟩) (tabs.length + 1) cap2)) :=
    ((u.mono (fun k hk=>List.mem_cons_of_mem _ hk)).setCell (p:=⟨a,2,none⟩) (.inl (by simp)) _).setCell (p:=⟨a,3,none⟩) (.inl (by simp)) _
  have hS:∀ k,k∈a :: (rv.ownBlock.toList ++ tv.ownBlock.toList)→k=a∨rv.ownBlock=some k∨tv.ownBlock=some k:=fun k hk=>by
    rcases List.mem_cons.1 hk with h | h
    · exact .inl h
    · rcases List.mem_append.1 h with h | h
      · exact .inr (.inl (by simpa using h))
      · exact .inr (.inr (by simpa using h))
  have hSF:∀ k,k∈F ++ p.all m→k∉a :: (rv.ownBlock.toList ++ tv.ownBlock.toList):=fun k hk hm=>by
    rcases hS k hm with rfl | h1 | h1
    · rcases List.mem_append.1 hk with h2 | h2
      · exact h.na.1 h2
      · exact h.na.2 h2
    · rcases List.mem_append.1 hk with h2 | h2
      · exact (h.mem.rf k h1).1 h2
      · exact (h.mem.rf k h1).2 h2
    · exact h.mem.tt.fr k h1 hk
  have far:∀ k,w.heap.size≤k→k∉F ++ p.all m:=fun k hk hm=>by have:=hz k hm; omega
  have g1n:∀ k,g1=k→k∉F ++ p.all m:=fun k e hm=>by
    subst e
    rcases at1 with h1 | h1
    · exact hSF g1 hm (by simp [h1])
    · exact far g1 h1 hm
  have g2n:∀ k,g2=k→k∉F ++ p.all m:=fun k e hm=>by
    subst e
    rcases at2 with h1 | h1
    · exact hSF g2 hm (by simp [h1])
    · exact far g2 h1 hm
  have own:∀ {g k n c:Nat},(Value.slice (some ⟨g,0,none⟩) n c).ownBlock=some k→g=k:=fun {g k n c} h=>by simpa [Value.ownBlock] using h
  have keepT:∀ {d:Value} {s:TV},TIn w (F ++ p.all m) d s→TIn ((w6.setCell ⟨a,2,none⟩ (.slice (some ⟨g1,0,none⟩) (refs.length + 1) cap1)).setCell ⟨a,3,none⟩ (.slice (some ⟨g2,0,none⟩) (tabs.length + 1) cap2)) (F ++ p.all m) d s:=fun {d s} hd =>
    ⟨hd.ok,row_keep hd.row fun k hk=>u2.block k (hd.row.lt k hk).2 fun hm=>by
      rcases hS k hm with rfl | h1 | h1
      · exact blk_ne hd.row h.blk (by decide) hk
      · exact ty_ne hd.row h.mem.rr (by decide) hk h1
      · exact ty_ne hd.row hxs (by decide) hk h1,hd.fr⟩
  have b1:=heap_set_eq (j:=3) (heap_set_eq (j:=2) hblk6 (.slice (some ⟨g1,0,none⟩) (refs.length + 1) cap1)) (.slice (some ⟨g2,0,none⟩) (tabs.length + 1) cap2);have q1:=blk_ne o1 hblk6 (by decide);have q2:=blk_ne o2 hblk6 (by decide);have h0:=h.lo;have hbl:=h.bl
  have hmod:ModIn ((w6.setCell ⟨a,2,none⟩ (.slice (some ⟨g1,0,none⟩) (refs.length + 1) cap1)).setCell ⟨a,3,none⟩ (.slice (some ⟨g2,0,none⟩) (tabs.length + 1) cap2)) m M p (F ++ p.all m):=by
    obtain ⟨ds,d1,d2,d3⟩:=h.mem.mod.hs.ex
    have np:∀ k,k∈p.all m→k∉a :: (rv.ownBlock.toList ++ tv.ownBlock.toList):=fun k hk=>hSF k (List.mem_append.2 (.inr hk))
    exact ⟨by rw [u2.block m (heap_lt h.mem.mod.blk) (np m (MPtr.mem.2 (.inl rfl)))]; exact h.mem.mod.blk,row_keep h.mem.mod.os fun k hk=>u2.block k (h.mem.mod.os.lt k hk).2 (np k (MPtr.mem.2 (.inr (.inl hk)))),
      ⟨ds,d1,row_keep d2 fun k hk=>u2.block k (d2.lt k hk).2 (np k (MPtr.mem.2 (.inr (.inr (.inl hk))))),fun i t c hi hc=>keepT (d3 i t c hi hc)⟩,
      row_keep h.mem.mod.ts fun k hk=>u2.block k (h.mem.mod.ts.lt k hk).2 (np k (MPtr.mem.2 (.inr (.inr (.inr hk))))),h.mem.mod.ne,h.mem.mod.sz⟩
  refine ⟨⟨b1,⟨h.mem.ker.upd u2 fun k hk=>hSF k (List.mem_append.2 (.inl hk)),hmod,h.mem.dj,?_,fun k hk=>?_,⟨⟨cs ++ [c],by simp [e1],?_,fun i s d hs hd=>?_⟩,fun k hk=>g2n k (own hk)⟩⟩,h.na,fun k hk=>?_,Nat.le_trans hbl u2.size⟩,?_⟩
  · have:=row_ne (row_ne o1 (a:=⟨a,2,none⟩) (fun e=>q1 e.symm) (.slice (some ⟨g1,0,none⟩) (refs.length + 1) cap1)) (a:=⟨a,3,none⟩) (fun e=>q1 e.symm) (.slice (some ⟨g2,0,none⟩) (tabs.length + 1) cap2)
    rw [List.length_append,List.length_singleton];unfold flatRefs at this ⊢;rw [List.map_append];exact this
  · have:=g1n k (own hk)
    exact ⟨fun h=>this (List.mem_append.2 (.inl h)),fun h=>this (List.mem_append.2 (.inr h))⟩
  · rw [flatTT_snoc e1,List.length_append,List.length_singleton]
    exact row_ne (row_ne o2 (a:=⟨a,2,none⟩) (fun e=>q2 e.symm) (.slice (some ⟨g1,0,none⟩) (refs.length + 1) cap1)) (a:=⟨a,3,none⟩) (fun e=>q2 e.symm) (.slice (some ⟨g2,0,none⟩) (tabs.length + 1) cap2)
  · by_cases hi:i < tabs.length
    · rw [List.getElem?_append_left hi] at hs
      rw [List.getElem?_append_left (by omega)] at hd;exact keepT (e3 i s d hs hd)
    · rw [List.getElem?_append_right (by omega)] at hs
      rw [List.getElem?_append_right (by omega),e1] at hd
      cases h3:i - tabs.length with
      | zero=>rw [h3] at hs hd; simp at hs hd; subst hs hd; exact keepT ht
      | succ j=>rw [h3] at hs; simp at hs
  · rcases hk with hk | hk | hk | hk | hk
    · exact h0 k (.inl hk)
    · exact h0 k (.inr (.inl hk))
    · exact h0 k (.inr (.inr (.inl hk)))
    · rw [← own hk]
      rcases at1 with h1 | h1
      · exact h0 g1 (.inr (.inr (.inr (.inl h1))))
      · omega
    · rw [← own hk]
      rcases at2 with h1 | h1
      · exact h0 g2 (.inr (.inr (.inr (.inr h1))))
      · omega
  · refine Fro.of u2 fun k hk=>?_
    rcases hS k hk with rfl | h1 | h1
    · exact h0 k (.inr (.inr (.inl rfl)))
    · exact h0 k (.inr (.inr (.inr (.inl h1))))
    · exact h0 k (.inr (.inr (.inr (.inr h1))))
def MV.layT (M:MV) (t:TV):MV:=if M.fits [t]=true then M.hold1 t else M
structure LayW (n0 a b m:Nat) (K:KV) (M:MV) (refs:List Nat) (tabs:List TV) (t:TV) (w:World) (e:Ending) (w':World):Prop where
  ex:∃ (rv tv:Value) (K':KV) (F':List Nat) (M':MV) (p':MPtr) (refs':List Nat) (tabs':List TV),e=.returned (.bool true)∧LIn w' n0 a b m rv tv K' F' M' p' refs' tabs'∧WLog K' M' refs' tabs'∧WAll K' refs' tabs'∧Fro n0 w w' ∧
    (∀ x,K'.hold x≤K.hold x + 1)∧refs'.length≤refs.length + 1∧M'.held.length≤M.held.length + 1∧M'.trail=M.trail∧K.Ext K'∧(∀ i r:Nat,refs[i]?=some r→refs'[i]?=some r)∧M'=M.layT t∧(∀ x,K.hold x≤K'.hold x)∧∀ r,r∈refs'→r∈refs∨r < 2∨0 < K'.hold r
theorem TLs.one {W:World} {n0 g:Nat} {Z:List Nat} {d0:Value} {t0:TV} (h:W.heap[g]?=some (.cells #[.int .i64 t0.n,d0] 56 (0,0))) (h0:TIn W Z d0 t0) (hg:n0≤g) (hZ:g∉Z) :
    TLs W n0 Z (.slice (some ⟨g,0,none⟩) 1 1) [t0]:=by
  refine ⟨⟨[d0],rfl,⟨rfl,.inr ⟨g,1,_,rfl,hg,h,Nat.le_refl _,by unfold maxLen; omega,rfl,rfl⟩⟩,fun i t c ht hc=>?_⟩,fun k hk=>?_⟩
  · match i,ht,hc with
    | 0,ht,hc=>simp at ht hc; subst ht hc; exact h0
    | i + 1,ht,_=>simp at ht
  · simp [Value.ownBlock] at hk; subst hk; exact hZ
theorem LIn.model2 {w w1:World} {n0 a b m:Nat} {rv tv:Value} {K:KV} {F:List Nat} {M M':MV} {p:MPtr} {refs:List Nat} {tabs:List TV} (h:LIn w n0 a b m rv tv K F M p refs tabs) (e:ModE m p (F ++ p.all m) M' w w1):∃ p',LIn w1 n0 a b m rv tv K F M' p' refs tabs∧Fro n0 w w1∧Upd (p.all m) w w1∧Sub (p.all m) w (p'.all m):=by
  have hbl:=h.bl;obtain ⟨p',hm,u,s⟩:=h.mem.model e;refine ⟨p',⟨by rw [u.block a (heap_lt h.blk) h.na.2]; exact h.blk,hm,⟨h.na.1,fun hm=>?_⟩,fun k hk=>?_,Nat.le_trans h.bl u.size⟩,Fro.of u fun k hk=>h.lo k (.inr (.inl hk)),u,s⟩
  · rcases s a hm with h1 | h1
    · exact h.na.2 h1
    · have:=heap_lt h.blk; omega
  · rcases hk with hk | hk | hk
    · exact h.lo k (.inl hk)
    · rcases s k hk with h1 | h1
      · exact h.lo k (.inr (.inl h1))
      · omega
    · exact h.lo k (.inr (.inr hk))
end Go.Proofs.YtpfafhmkbcahhaaGreat
namespace Go.Proofs.YtpfafhmkbcahhaaGreat
open Go.RowKit Go.Maps Go.ChangeMaps Go.WideShapes
theorem u64_wrap_nonneg (n:Int):0≤IntKind.u64.wrap n∧IntKind.u64.wrap n < 18446744073709551616:=by
  simp [IntKind.wrap,IntKind.bits,IntKind.signed]
  omega
def varsN (n:Int):Nat:=((IntKind.u64.wrap n).tmod 6).toNat + 1
set_option maxRecDepth 100000 in
theorem lvars_spec (n:Int) (w:World):Calls Tryz.prog 62 #[.int .i64 n] w fun e w'=>(∃ v:Nat,v=varsN n∧e=.returned (.int .i64 v)∧1≤v∧v≤6)∧w'=w:=by
  obtain ⟨m,hm,hlt⟩ : ∃ m:Nat,(IntKind.u64.wrap n).tmod 6=m∧m < 6:=by
    have h0:=(u64_wrap_nonneg n).1;rw [Int.tmod_eq_emod_of_nonneg h0];exact ⟨((IntKind.u64.wrap n) % 6).toNat,by omega,by omega⟩
  have HM:=Lib.hid hm;clear hm
  go_enter Tryz.func62,Tryz.ntmps62
  go_wp2_with fail;go_ret;refine ⟨⟨m + 1,by unfold varsN; rw [HM.out]; rfl,?_,by omega,by omega⟩,rfl⟩;rw [HM.out]
  have e1:wrap64 (m:Int)=m:=by unfold wrap64; omega
  rw [e1]
  have e2:wrap64 (1 + (m:Int))=((m + 1:Nat):Int):=by unfold wrap64; omega
  rw [e2]; rfl
theorem u64_row1 {w:World} {x:Int}:(w.alloc (.cells #[.int .u64 x] 96 (0,0))).ownsRow w.heap.size 96 1 (.slice (some ⟨w.heap.size,0,none⟩) 1 1) 1 (flatU [x]) :=
  ⟨rfl,.inr ⟨w.heap.size,1,_,rfl,Nat.le_refl _,heap_alloc_new _ _,Nat.le_refl _,by unfold maxLen; omega,rfl,rfl⟩⟩
def wordT (n:Nat) (x:Int):TV:=⟨n,[if n < 6 then x % 2 ^ 2 ^ n else x]⟩
structure WordQ (n:Nat) (x:Int) (w:World) (e:Ending) (w':World):Prop where
  ex:∃ (t:TV) (a:Option Addr) (m c:Nat),t=wordT n x∧e=.returned (.agg #[.int .i64 n,.slice a m c])∧TNew w w' (.slice a m c) t∧Upd [] w w'
theorem word_end (n:Nat) (z y x:Int) (w:World) (h6:n≤6) (hy:U64 y) (hlow:n < 6→y < 2 ^ 2 ^ n) (hz:z=n) (hx:(if n < 6 then x % 2 ^ 2 ^ n else x)=y) :
    WordQ n x w (.returned (.agg #[.int .i64 z,.slice (some ⟨w.heap.size + 1,0,none⟩) 1 1])) ((w.alloc (.cells #[.int .i64 z,.slice (some ⟨w.heap.size + 1,0,none⟩) 1 1] 56 (0,0))).alloc (.cells #[.int .u64 y] 96 (0,0))):=by
  subst hz
  have ok:(TV.mk n [y]).Ok:=by
    refine ⟨by show n≤16; omega,?_,fun x hx=>?_,fun h x hx i hi=>?_⟩
    · show 1=wordsN n; unfold wordsN; rw [if_pos h6]
    · simp at hx; subst hx; exact hy
    · simp at hx; subst hx
      have h1:=hlow h;obtain ⟨m,rfl⟩ : ∃ m:Nat,x=(m:Int):=⟨x.toNat,by have:=hy.1; omega⟩;rw [nb_cast];refine Nat.testBit_lt_two_pow (Nat.lt_of_lt_of_le ?_ (Nat.pow_le_pow_right (by omega) hi))
      exact_mod_cast h1
  have hr:=u64_row1 (w:=w.alloc (.cells #[.int .i64 n,.slice (some ⟨w.heap.size + 1,0,none⟩) 1 1] 56 (0,0))) (x:=y);rw [World.size_alloc] at hr;exact ⟨⟨n,[y]⟩,_,_,_,by unfold wordT; rw [hx],rfl,⟨ok,row_base hr (by omega)⟩,((Upd.refl _ _).alloc _).alloc _⟩
set_option maxRecDepth 100000 in
theorem word_spec (n:Nat) (x:Int) (w:World) (h1:1≤n) (h6:n≤6) (hx:U64 x):Calls Tryz.prog 68 #[.int .i64 n,.int .u64 x] w fun e w'=>WordQ n x w e w':=by
  have hz:(w.alloc (.cells #[.int .i64 0,.slice none 0 0] 56 (0,0))).heap[w.heap.size]?=some (.cells #[.int .i64 0,.slice none 0 0] 56 (0,0)):=heap_alloc_new _ _;obtain ⟨hx0,hx1⟩:=hx
  obtain rfl | rfl | rfl | rfl | rfl | rfl:n=1∨n=2∨n=3∨n=4∨n=5∨n=6:=by omega
  · have HE:=Lib.hid (word_end 1 1 (x % 4) x w (by omega) (by unfold U64; omega) (fun _=>by omega) rfl (by simp))
    clear hz
    go_enter Tryz.func68,Tryz.ntmps68
    go_wp2_with fail;refine bodyPost_ret (v:=.agg #[.int .i64 1,.slice (some ⟨w.heap.size + 1,0,none⟩) 1 1]) (by simp [results,Tryz.results68,go_sem]) rfl ?_;exact HE.out
  · have HE:=Lib.hid (word_end 2 2 (x % 16) x w (by omega) (by unfold U64; omega) (fun _=>by omega) rfl (by simp))
    clear hz
    go_enter Tryz.func68,Tryz.ntmps68
    go_wp2_with fail;refine bodyPost_ret (v:=.agg #[.int .i64 2,.slice (some ⟨w.heap.size + 1,0,none⟩) 1 1]) (by simp [results,Tryz.results68,go_sem]) rfl ?_;exact HE.out
  · have HE:=Lib.hid (word_end 3 3 (x % 256) x w (by omega) (by unfold U64; omega) (fun _=>by omega) rfl (by simp))
    clear hz
    go_enter Tryz.func68,Tryz.ntmps68
    go_wp2_with fail;refine bodyPost_ret (v:=.agg #[.int .i64 3,.slice (some ⟨w.heap.size + 1,0,none⟩) 1 1]) (by simp [results,Tryz.results68,go_sem]) rfl ?_;exact HE.out
  · have HE:=Lib.hid (word_end 4 4 (x % 65536) x w (by omega) (by unfold U64; omega) (fun _=>by omega) rfl (by simp))
    clear hz
    go_enter Tryz.func68,Tryz.ntmps68
    go_wp2_with fail;refine bodyPost_ret (v:=.agg #[.int .i64 4,.slice (some ⟨w.heap.size + 1,0,none⟩) 1 1]) (by simp [results,Tryz.results68,go_sem]) rfl ?_;exact HE.out
  · have HE:=Lib.hid (word_end 5 5 (x % 4294967296) x w (by omega) (by unfold U64; omega) (fun _=>by omega) rfl (by simp))
    clear hz
    go_enter Tryz.func68,Tryz.ntmps68
    go_wp2_with fail;refine bodyPost_ret (v:=.agg #[.int .i64 5,.slice (some ⟨w.heap.size + 1,0,none⟩) 1 1]) (by simp [results,Tryz.results68,go_sem]) rfl ?_;exact HE.out
  · have HE:=Lib.hid (word_end 6 6 x x w (by omega) ⟨hx0,hx1⟩ (fun h=>by omega) rfl (by simp))
    clear hz
    go_enter Tryz.func68,Tryz.ntmps68
    go_wp2_with fail;refine bodyPost_ret (v:=.agg #[.int .i64 6,.slice (some ⟨w.heap.size + 1,0,none⟩) 1 1]) (by simp [results,Tryz.results68,go_sem]) rfl ?_;exact HE.out
end Go.Proofs.YtpfafhmkbcahhaaGreat
namespace Go.Proofs.YtpfafhmkbcahhaaGreat
open Go.RowKit Go.Maps Go.ChangeMaps Go.WideShapes
theorem MV.Fit.new {n c:Nat} (hn:n≤6) (hc:c≤1048576):(MV.new n c).Fit :=
  ⟨by simp [MV.new],hn,by simp [MV.new]; exact hn,fun x hx=>by simpa [MV.new] using hx,fun t ht=>by simp [MV.new,MV.tabs] at ht,hc⟩
structure Ph1 (n R:Nat) (K:KV) (M:MV) (i:Nat):Prop where
  agr:Agr K M
  fit:M.Fit
  hb:M.held=[]
  us:K.A.used=2
  vr:K.vars=n
  pl:K.A.places=R
  tr:K.trail=M.trail
  tl:M.trail.length≤i
  h0:∀ x,K.hold x=0
  od:M.order.length=M.n
theorem Ph1.new {n R:Nat} (h1:1≤n) (hn:n≤6) (h2:2≤R) (hR:R≤1048576):Ph1 n R (KV.new n R) (MV.new n R) 0:=by
  have hp:=plain_new h1 (by omega) h2 hR;exact ⟨Agr.new h1 (by omega) h2 hR,.new hn hR,rfl,rfl,rfl,rfl,rfl,by simp [MV.new],fun x=>by simp [KV.new,KV.hold],by simp [MV.new]⟩
theorem Ph1.step {n R i:Nat} {K:KV} {M:MV} (h:Ph1 n R K M i) (hk:K.Ok) (l:Int) :
    (M.exchE l=if l < 0∨(K.vars:Int) - 2 < l then 1 else 0)∧((l < 0∨(K.vars:Int) - 2 < l)→M.exch l=M)∧(¬ (l < 0∨(K.vars:Int) - 2 < l)→Ph1 n R (K.exchK l.toNat) (M.exch l) (i + 1)):=by
  have hp:=hk.wf.ok.lp;have hu:=hk.wf.ok.us
  have h2:2≤K.A.places:=by have:=h.us; omega
  obtain ⟨e1,e2,e3,e4,e5,e6⟩:=h.agr.exch_bare h.hb h2 l;refine ⟨e1,e4,fun hl=>?_⟩
  have em:M.exch l={ M with order:=turnL M.order l.toNat,trail:=M.trail ++ [l.toNat] }:=by unfold MV.exch; rw [e1,if_neg hl,if_pos rfl]
  refine ⟨e3 hl,⟨?_,?_,?_,fun x hx=>?_,fun t ht=>?_,?_⟩,e2,h.us,h.vr,h.pl,e6 h.tr hl,by have:=h.tl; omega,h.h0,?_⟩
  · rw [e2]; simp
  · rw [em]; exact h.fit.n6
  · rw [em]; show (turnL M.order _).length≤6; rw [turnL_len]; exact h.fit.ol
  · rw [em] at hx ⊢
    refine h.fit.on x (mem_turnL ?_ hx);have h3:=h.od;have h4:=h.agr.same.n;omega
  · unfold MV.tabs at ht; rw [e2] at ht; simp at ht
  · rw [em]; exact h.fit.cb
  · rw [em]; show (turnL M.order _).length=M.n; rw [turnL_len]; exact h.od
theorem Ph1.mono {n R i j:Nat} {K:KV} {M:MV} (h:Ph1 n R K M i) (hij:i≤j):Ph1 n R K M j:=⟨h.agr,h.fit,h.hb,h.us,h.vr,h.pl,h.tr,Nat.le_trans h.tl hij,h.h0,h.od⟩
theorem Ph1.log {n R i:Nat} {K:KV} {M:MV} (h:Ph1 n R K M i) (hk:K.Ok) (hn:n≤6):WLog K M [0,1] [constT n false,constT n true]∧WAll K [0,1] [constT n false,constT n true]:=by
  have ha:WAll K [0,1] [constT n false,constT n true]:=fun i r t h1 h2=>by
    have key:(r=0∧t=constT n false)∨(r=1∧t=constT n true):=by
      generalize constT n false=c0 at *;generalize constT n true=c1 at *
      cases i with
      | zero=>simp at h1 h2; exact .inl ⟨h1.symm,h2.symm⟩
      | succ i =>
        cases i with
        | zero=>simp at h1 h2; exact .inr ⟨h1.symm,h2.symm⟩
        | succ i=>simp at h1
    rcases key with ⟨e1,e2⟩ | ⟨e1,e2⟩
    · rw [e1,e2]; exact const_names hk false
    · rw [e1,e2]; exact const_names hk true
  refine ⟨⟨h.agr,h.fit,rfl,by simp,⟨[],by rw [h.vr]⟩,fun t ht=>?_,fun i r t h1 h2 _=>ha i r t h1 h2,fun r hr=>?_⟩,ha⟩
  · rw [h.vr]
    rw [List.mem_cons,List.mem_singleton] at ht
    rcases ht with h1 | h1
    · rw [h1]; exact ⟨mkT_ok _ (by omega),rfl⟩
    · rw [h1]; exact ⟨mkT_ok _ (by omega),rfl⟩
  · simp at hr; omega
theorem WLog.keepK {K:KV} {M:MV} {refs:List Nat} {tabs:List TV} (l:WLog K M refs tabs) (al:WAll K refs tabs) (hk:K.Ok):WLog (K.keepK 1) M refs tabs∧WAll (K.keepK 1) refs tabs∧K.Ext (K.keepK 1)∧(∀ x,(K.keepK 1).hold x=K.hold x):=by
  have he:K.Ext (K.keepK 1):=⟨fun r p h1 h2=>h1,rfl,rfl,rfl,rfl⟩
  have hd:∀ x,(K.keepK 1).hold x=K.hold x:=fun x=>rfl
  exact ⟨l.no hk he hd,fun i r t h1 h2=>(al i r t h1 h2).ext hk he,he,hd⟩
theorem Agr.clear {K:KV} {M:MV} (h:Agr K M):Agr K { M with trail:=[] }:=⟨⟨h.same.od,h.same.n⟩,h.c,h.nd,h.hl,h.lh⟩
theorem MV.Fit.clear {M:MV} (h:M.Fit):MV.Fit { M with trail:=[] }:=⟨h.hl,h.n6,h.ol,h.on,h.tn,h.cb⟩
theorem WLog.clear {K:KV} {M:MV} {refs:List Nat} {tabs:List TV} (l:WLog K M refs tabs):WLog K { M with trail:=[] } refs tabs :=
  ⟨l.agr.clear,l.fit.clear,l.lr,l.rb,l.t2,l.ok,l.nm,l.r32⟩
theorem ModE.clear {w:World} {m:Nat} {M:MV} {p:MPtr} {Z:List Nat} (h:ModIn w m M p Z) (hz:∀ k,k∈p.all m→k∈Z):ModE m p Z { M with trail:=[] } w (w.setCell ⟨m,4,none⟩ (.slice none 0 0)):=by
  have hu:Upd (p.all m) w (w.setCell ⟨m,4,none⟩ (.slice none 0 0)):=(Upd.refl _ w).setCell (p:=⟨m,4,none⟩) (.inl (MPtr.mem.2 (.inl rfl))) _
  have hs:Sub (p.all m) w (MPtr.all ⟨p.ov,p.hv,.slice none 0 0⟩ m):=fun k hk=>by
    rcases MPtr.mem.1 hk with h | h | h | h
    · exact .inl (MPtr.mem.2 (.inl h))
    · exact .inl (MPtr.mem.2 (.inr (.inl h)))
    · exact .inl (MPtr.mem.2 (.inr (.inr (.inl h))))
    · simp [Value.ownBlock] at h
  have ne:∀ {v:Value} {e:TypeId} {n sz b:Nat} {xs:List Value},w.ownsRow b e sz v n xs→e≠90→v.ownBlock≠some m:=fun {v e n sz b xs} hr he hv=>by
    obtain ⟨c,f,h1⟩:=row_type hr hv;rw [h.blk] at h1
    injection h1 with h1
    injection h1 with _ h1 _
    exact he h1.symm
  have no:=ne h.os (by decide);obtain ⟨xs,hxs⟩:=h.hs.row;have nh:=ne hxs (by decide);have u1:Upd [m] w (w.setCell ⟨m,4,none⟩ (.slice none 0 0)):=(Upd.refl _ w).setCell (p:=⟨m,4,none⟩) (.inl (by simp)) _;refine ⟨⟨p.ov,p.hv,.slice none 0 0⟩,⟨heap_set_eq (j:=4) h.blk (.slice none 0 0),row_ne h.os (a:=⟨m,4,none⟩) (fun e=>no e.symm) _,?_,World.ownsRow_nil _ _ _ _,fun k _ e=>by simp [Value.ownBlock] at e,fun k hk=>List.mem_append.2 (.inr hk)⟩,hu,hs⟩
  refine (h.hs.keep u1 (fun k hk=>.inl (hz k (by simp at hk; subst hk; exact MPtr.mem.2 (.inl rfl)))) fun k hk hm=>nh (by simp at hm; rw [← hm]; exact hk)).apart fun k hk=>.inl ?_
  rcases List.mem_append.1 hk with hk | hk
  · exact hk
  · rcases MPtr.mem.1 hk with h1 | h1 | h1 | h1
    · exact hz k (MPtr.mem.2 (.inl h1))
    · exact hz k (MPtr.mem.2 (.inr (.inl h1)))
    · exact hz k (MPtr.mem.2 (.inr (.inr (.inl h1))))
    · simp [Value.ownBlock] at h1
structure RowOf (w:World) (k:IntKind) (a:Option Addr) (n:Nat) (zs:List Int):Prop where
  len:zs.length=n
  mx:n≤maxLen
  at_:∀ i,i < n→∃ x,a=some x∧w.cell? (x.add i)=some (.int k (zs.getD i 0))
theorem RowOf.keep0 {w w':World} {k:IntKind} {a:Option Addr} {n:Nat} {zs:List Int} (h:RowOf w k a n zs) (u:Upd [] w w'):RowOf w' k a n zs :=
  ⟨h.len,h.mx,fun i hi=>by obtain ⟨x,e,hc⟩:=h.at_ i hi; exact ⟨x,e,u.cell0 hc⟩⟩
def roomN (r:Int):Nat:=if r < 2∨1048576 < r then 200 else r.toNat
theorem roomN_lo (r:Int):2≤roomN r∧roomN r≤1048576:=by unfold roomN; split <;> omega
structure LaidQ (room:Int) (w:World) (e:Ending) (w':World):Prop where
  ex:∃ (b m:Nat) (rv tv:Value) (K:KV) (F:List Nat) (M:MV) (p:MPtr) (refs:List Nat) (tabs:List TV),e=.returned (.tuple #[worldV b m rv tv,.bool true])∧WMem w' b m rv tv K F M p refs tabs∧WLog K M refs tabs∧WAll K refs tabs ∧
    (∀ k,(k∈F∨k∈p.all m∨rv.ownBlock=some k∨tv.ownBlock=some k)→w.heap.size≤k)∧Upd [] w w'∧K.A.places=roomN room∧(∀ x,K.hold x≤8)∧refs.length≤10∧M.held.length≤8∧K.trail=[]∧M.trail=[]
def laysT (v:Nat) (M:MV) (l:List Int):MV:=l.foldl (fun M u=>M.layT (wordT v u)) M
structure LaidX (n room:Int) (ln:Nat) (Ws:List Int) (w:World) (e:Ending) (w':World):Prop where
  ex:∃ (b m:Nat) (rv tv:Value) (K:KV) (F:List Nat) (M:MV) (p:MPtr) (refs:List Nat) (tabs:List TV),e=.returned (.tuple #[worldV b m rv tv,.bool true])∧WMem w' b m rv tv K F M p refs tabs∧WLog K M refs tabs∧WAll K refs tabs ∧
    (∀ k,(k∈F∨k∈p.all m∨rv.ownBlock=some k∨tv.ownBlock=some k)→w.heap.size≤k)∧Upd [] w w'∧K.A.places=roomN room∧(∀ x,K.hold x≤8)∧refs.length≤10∧M.held.length≤8∧K.trail=[]∧M.trail=[] ∧
    K.vars=varsN n∧(∀ r,r∈refs→r < 2∨0 < K.hold r)∧(ln=0→M={ laysT (varsN n) (MV.new (varsN n) (roomN room)) (Ws.take 8) with trail:=[] })
theorem LaidX.q {n room:Int} {ln:Nat} {Ws:List Int} {w w':World} {e:Ending} (h:LaidX n room ln Ws w e w'):LaidQ room w e w':=by
  obtain ⟨b,m,rv,tv,K,F,M,p,refs,tabs,h1,h2,h3,h4,h5,h6,h7,h8,h9,h10,h11,h12,_⟩:=h.ex;exact ⟨b,m,rv,tv,K,F,M,p,refs,tabs,h1,h2,h3,h4,h5,h6,h7,h8,h9,h10,h11,h12⟩
theorem exch_at (b:Nat) (l:Int) (K:KV) (F:List Nat) (w:World) (h:KerAt w b K F) (hb:K.A.used=2) (ht:K.trail.length≤1000000) :
    Calls Tryz.prog 49 #[.pointer (some ⟨b,0,none⟩),.int .i64 l] w fun e w' =>
      ∃ (K':KV) (F':List Nat),e=.returned (.int .i64 (if l < 0∨(K.vars:Int) - 2 < l then 1 else 0))∧(((l < 0∨(K.vars:Int) - 2 < l)∧K'=K)∨(¬ (l < 0∨(K.vars:Int) - 2 < l)∧K'=K.exchK l.toNat))∧KerAt w' b K' F'∧Upd F w w'∧Sub F w F':=by
  obtain ⟨T,q,hk,rfl⟩:=h;refine (exchange_bare b l K T q w hk hb ht).mono ?_;rintro e w' hE;obtain ⟨code,K',T',q',rfl,hc,hk',hu,hs⟩:=hE.ex
  rcases hc with ⟨rfl,h1,h2⟩ | ⟨rfl,h1,h2,h3⟩
  · exact ⟨K',_,by rw [if_pos h1],.inl ⟨h1,h2⟩,⟨T',q',hk',rfl⟩,hu,hs⟩
  · exact ⟨K',_,by rw [if_neg (by omega)],.inr ⟨by omega,h3⟩,⟨T',q',hk',rfl⟩,hu,hs⟩
theorem keep1_at (b:Nat) (K:KV) (F:List Nat) (w:World) (h:KerAt w b K F) (hh:K.hold 1 < 65535) :
    Calls Tryz.prog 69 #[.pointer (some ⟨b,0,none⟩),.int .u32 (1:Nat)] w fun e w'=>∃ F':List Nat,e=.returned (.int .i64 0)∧KerAt w' b (K.keepK 1) F'∧Upd F w w'∧Sub F w F':=by
  obtain ⟨T,q,hk,rfl⟩:=h;refine (keep_any b 1 K T q w hk (by omega) (hk.ok.tk_const (by omega))).mono ?_;rintro e w' ⟨code,K',q',rfl,hc,hk',hu,hs⟩
  rcases hc with ⟨rfl,h1,_⟩ | ⟨rfl,_,rfl⟩
  · omega
  · exact ⟨_,rfl,⟨T,q',hk',rfl⟩,hu,fun k hk=>.inl (hs k hk)⟩
theorem Fro.cell {n0:Nat} {w w':World} (f:Fro n0 w w') {a:Addr} {v:Value} (h:w.cell? a=some v) (ha:a.block < n0):w'.cell? a=some v :=
  (World.cell?_of_block (f.block _ ha (World.block_lt_of_cell? _ _ h))).trans h
theorem LIn.exch {w1 w2:World} {n0 a b m n R i:Nat} {rv tv:Value} {K K':KV} {F':List Nat} {M:MV} {p:MPtr} {refs:List Nat} {tabs:List TV} {l:Int} (ph:Ph1 n R K M i) (hk:K.Ok)
    (hc:((l < 0∨(K.vars:Int) - 2 < l)∧K'=K)∨(¬ (l < 0∨(K.vars:Int) - 2 < l)∧K'=K.exchK l.toNat)) (h:LIn w1 n0 a b m rv tv K' F' M p refs tabs) (e:ModE m p (F' ++ p.all m) (M.exch l) w1 w2) :
    ∃ p',LIn w2 n0 a b m rv tv K' F' (M.exch l) p' refs tabs∧Ph1 n R K' (M.exch l) (i + 1)∧Fro n0 w1 w2:=by
  obtain ⟨p',h1,h2⟩:=h.model e;obtain ⟨e1,e2,e3⟩:=ph.step hk l;refine ⟨p',h1,?_,h2⟩
  rcases hc with ⟨hb,rfl⟩ | ⟨hb,rfl⟩
  · rw [e2 hb]; exact ph.mono (by omega)
  · exact e3 hb
end Go.Proofs.YtpfafhmkbcahhaaGreat
namespace Go.Proofs.YtpfafhmkbcahhaaGreat
open Go.RowKit Go.Maps Go.ChangeMaps Go.WideShapes
structure KM (K:KV) (M:MV):Prop where
  agr:Agr K M
  fit:M.Fit
  tr:K.trail=M.trail
  tf:M.TrFit
theorem KM.n16 {K:KV} {M:MV} (h:KM K M):K.vars≤16:=by have:=h.fit.n6; rw [h.agr.same.n] at this; omega
theorem KM.len {K:KV} {M:MV} (h:KM K M) (hk:K.Ok):M.order.length=M.n:=by rw [h.agr.same.od,h.agr.same.n]; exact hk.ord.pm.ol
theorem KV.Ext.trail (K:KV) (t:List Nat):K.Ext { K with trail:=t }:=⟨fun _ _ h _=>h,rfl,rfl,rfl,rfl⟩
theorem Agr.exch {K K1:KV} {M:MV} {l:Nat} {t:List Nat} (h:Agr K M) (hk0:K.Ok) (hk:K1.Ok) (X:Exch K l K1):Agr { K1 with trail:=t } { M with order:=turnL M.order l,trail:=t }:=by
  refine ⟨⟨?_,h.same.n.trans X.vr.symm⟩,h.c.trans X.pl.symm,h.nd,fun u c hm=>?_,fun r hr=>?_⟩
  · show turnL M.order l=K1.order
    rw [X.od,h.same.od]; rfl
  · obtain ⟨h1,h2,r,h3,h4,h5,h6,h7⟩:=h.hl u c hm
    have hh:K1.hold r=c:=by rw [X.hd]; exact h5
    have ht:=(hk.wf.ht r (by rw [hh]; exact h6)).2;exact ⟨h1,h2.trans X.vr.symm,r,h3,ht,hh,h6,fun y=>by rw [(KV.Ext.trail K1 t).den hk.wf y ht,X.den r h4 ht]; exact h7 y⟩
  · have hr':0 < K1.hold r:=hr
    have ht:=(hk.wf.ht r hr').2;rw [X.hd] at hr';obtain ⟨u,c,h1,h2,h3⟩:=h.lh r hr';refine ⟨u,c,h1,by show K1.hold r=c; rw [X.hd]; exact h2,fun y=>?_⟩
    rw [(KV.Ext.trail K1 t).den hk.wf y ht,X.den r (hk0.wf.ht r hr').2 ht]; exact h3 y
theorem MV.Fit.exch {M:MV} (h:M.Fit) {l:Nat} (hl:l + 1 < M.order.length) (t:List Nat):({ M with order:=turnL M.order l,trail:=t }:MV).Fit :=
  ⟨h.hl,h.n6,by show (turnL _ _).length≤6; rw [turnL_len]; exact h.ol,fun x hx=>h.on x (mem_turnL hl hx),h.tn,h.cb⟩
structure Stay (K K':KV):Prop where
  vr:K'.vars=K.vars
  hd:∀ r,K'.hold r=K.hold r
  den:∀ r,0 < K.hold r∨r < 2→∀ z,K'.den r z=K.den r z
theorem Stay.refl (K:KV):Stay K K:=⟨rfl,fun _=>rfl,fun _ _ _=>rfl⟩
theorem Stay.trans {A B C:KV} (h:Stay A B) (k:Stay B C):Stay A C :=
  ⟨k.vr.trans h.vr,fun r=>(k.hd r).trans (h.hd r),fun r hr z=>(k.den r (by rw [h.hd]; exact hr) z).trans (h.den r hr z)⟩
theorem Exch.stay {K K1:KV} {l:Nat} {t:List Nat} (X:Exch K l K1) (hk0:K.Ok) (hk:K1.Ok):Stay K { K1 with trail:=t }:=by
  refine ⟨X.vr,X.hd,fun r hr z=>?_⟩
  rcases hr with hr | hr
  · have ht:=(hk.wf.ht r (by rw [X.hd]; exact hr)).2
    rw [(KV.Ext.trail K1 t).den hk.wf z ht];exact X.den r (hk0.wf.ht r hr).2 ht z
  · rw [KV.den_const _ hr,KV.den_const _ hr]
structure KMove (b:Nat) (K:KV) (F:List Nat) (M':MV) (w w':World):Prop where
  ex:∃ (K':KV) (F':List Nat),KerAt w' b K' F'∧KM K' M'∧Stay K K'∧Upd F w w'∧Sub F w F'
theorem KV.Ok.nb {K:KV} (hk:K.Ok) (hu:K.Uni) {l:Nat} (hl:l + 2≤K.vars):Nb K l (K.order.getD l 0) (K.order.getD (l + 1) 0):=⟨hk,hu,hl,rfl,rfl⟩
theorem exch_km (b:Nat) (l:Int) (K:KV) (F:List Nat) (M:MV) (w:World) (h:KerAt w b K F) (hm:KM K M) (ht:M.trail.length≤1000000) :
    Calls Tryz.prog 49 #[.pointer (some ⟨b,0,none⟩),.int .i64 l] w fun e w'=>e=.returned (.int .i64 (M.exchE l))∧KMove b K F (M.exch l) w w':=by
  have hu:=h.uni;obtain ⟨T,q,hk,rfl⟩:=h;refine (exchange_spec b l K T q w hk (by rw [hm.tr]; exact ht)).mono ?_;rintro e w' hE;obtain ⟨code,K',T',q',rfl,hk',hu',hs',hc⟩:=hE.ex;have hn:=hm.agr.same.n
  rcases hc with ⟨rfl,h1,rfl⟩ | ⟨n,rfl,h2,C,N,CA,F,hc⟩
  · have he:M.exchE l=1:=by unfold MV.exchE; rw [if_pos (by rw [hn]; exact h1)]
    exact ⟨by rw [he],K',_,⟨T',q',hk',rfl⟩,by rw [MV.exch_no (by rw [he]; omega)]; exact hm,Stay.refl _,hu',hs'⟩
  · have hU:=hm.agr.U (hk.ok.nb hu h2) hm.n16 CA F
    have hcc:=hm.agr.c
    rcases hc with ⟨rfl,h3,rfl⟩ | ⟨rfl,h3,K1,X,_,rfl⟩
    · have he:M.exchE (n:Int)=9:=by unfold MV.exchE; rw [if_neg (by omega),Int.toNat_natCast,if_pos (by omega)]
      exact ⟨by rw [he],K',_,⟨T',q',hk',rfl⟩,by rw [MV.exch_no (by rw [he]; omega)]; exact hm,Stay.refl _,hu',hs'⟩
    · have he:M.exchE (n:Int)=0:=by unfold MV.exchE; rw [if_neg (by omega),Int.toNat_natCast,if_neg (by omega)]
      have hk1:K1.Ok:=⟨⟨hk'.ok.wf.ok,hk'.ok.wf.len,hk'.ok.wf.ul,hk'.ok.wf.tu,hk'.ok.wf.ht,hk'.ok.wf.hm,hk'.ok.wf.eq,hk'.ok.wf.pt,hk'.ok.wf.cl,hk'.ok.wf.vr,hk'.ok.wf.vs⟩,hk'.ok.pos,hk'.ok.ord.same rfl rfl rfl rfl,fun t ht'=>hk'.ok.tl t (by show t∈K1.trail ++ [n]; simp [ht'])⟩;have hol:=hk.ok.ord.pm.ol
      have e1:M.exch (n:Int)={ M with order:=turnL M.order n,trail:=M.trail ++ [n] }:=by
        obtain ⟨_,_,_,e⟩:=MV.exch_yes he
        rw [Int.toNat_natCast] at e; exact e
      have htr:K1.trail ++ [n]=M.trail ++ [n]:=by rw [X.tr,hm.tr]
      refine ⟨by rw [he],K1.addT n,_,⟨T',q',hk',rfl⟩,⟨?_,?_,?_,hm.tf.exch (hm.len hk.ok) _⟩,X.stay hk.ok hk1,hu',hs'⟩
      · rw [e1,← htr]; exact hm.agr.exch hk.ok hk1 X
      · rw [e1]; exact hm.fit.exch (by rw [hm.len hk.ok,hn]; omega) _
      · rw [e1]; exact htr
theorem undo_km (b:Nat) (K:KV) (F:List Nat) (M:MV) (w:World) (h:KerAt w b K F) (hm:KM K M) (ht:M.trail.length≤1000000) (hne:M.trail≠[]) :
    Calls Tryz.prog 41 #[.pointer (some ⟨b,0,none⟩)] w fun e w'=>e=.returned (.tuple #[.int .i64 (M.trail.getLastD 0:Nat),.int .i64 0])∧KMove b K F M.undo w w':=by
  have hu:=h.uni;obtain ⟨T,q,hk,rfl⟩:=h;obtain ⟨t1,t2,t3⟩:=hm.tf.last hne;have hn:=hm.agr.same.n;have hcc:=hm.agr.c;refine (undo_spec b K T q w hk (by rw [hm.tr]; exact ht) (fun _ C N CA F=>?_)).mono ?_
  · rw [hm.tr] at CA F
    have hU:=hm.agr.U (hk.ok.nb hu (by omega)) hm.n16 CA F;omega
  · rintro e w' hE
    obtain ⟨K',T',q',hk',hu',hs',hc⟩:=hE.ex
    rcases hc with ⟨h1,_⟩ | ⟨_,rfl,K1,X,rfl⟩
    · rw [hm.tr] at h1; exact absurd h1 hne
    · rw [hm.tr] at X
      have hk1:K1.Ok:=⟨⟨hk'.ok.wf.ok,hk'.ok.wf.len,hk'.ok.wf.ul,hk'.ok.wf.tu,hk'.ok.wf.ht,hk'.ok.wf.hm,hk'.ok.wf.eq,hk'.ok.wf.pt,hk'.ok.wf.cl,hk'.ok.wf.vr,hk'.ok.wf.vs⟩,hk'.ok.pos,hk'.ok.ord.same rfl rfl rfl rfl,fun t ht'=>by rw [X.tr] at ht'; rw [X.vr]; exact hk.ok.tl t ht'⟩
      have htr:K1.trail.dropLast=M.trail.dropLast:=by rw [X.tr,hm.tr]
      refine ⟨by rw [hm.tr],K1.cutT,_,⟨T',q',hk',rfl⟩,⟨?_,?_,htr,t3⟩,X.stay hk.ok hk1,hu',hs'⟩
      · show Agr { K1 with trail:=K1.trail.dropLast } { M with order:=turnL M.order (M.trail.getLastD 0),trail:=M.trail.dropLast }
        rw [← htr]; exact hm.agr.exch hk.ok hk1 X
      · exact hm.fit.exch (by rw [hm.len hk.ok,hn]; omega) _
theorem KM.live {K:KV} {M:MV} (h:KM K M) (hk:K.Ok) (hu:K.Uni):(K.A.used:Int) - 2=(M.live:Nat):=by
  have:=h.agr.used hk hu h.n16
  unfold MV.live; omega
end Go.Proofs.YtpfafhmkbcahhaaGreat
namespace Go.Proofs.YtpfafhmkbcahhaaGreat
open Go.RowKit Go.Maps Go.ChangeMaps Go.WideShapes
abbrev swC (b at_ best place g sw last:Nat) (st:Value):Array Value:=#[.pointer (some ⟨b,0,none⟩),.int .i64 at_,.int .i64 best,.int .i64 place,.int .i64 g,.int .i64 sw,.int .i64 last,st]
def pickC (e:Int) (A B:Array Value):Array Value:=if e=0 then A else B
structure SwQ (wb b:Nat) (K:KV) (F:List Nat) (M':MV) (C:Array Value) (w w':World):Prop where
  ex:∃ (K':KV) (F':List Nat),KerAt w' b K' F'∧KM K' M'∧Stay K K'∧wb∉F'∧Upd (wb :: F) w w'∧Sub (wb :: F) w (wb :: F')
  blk:w'.heap[wb]?=some (.cells C 132 (0,0))
theorem SwQ.of {wb b:Nat} {K:KV} {F:List Nat} {M':MV} {C:Array Value} {w w1 w':World} (hn:wb∉F) (hl:wb < w.heap.size) (h:KMove b K F M' w w1) (u:Upd [wb] w1 w') (hb:w'.heap[wb]?=some (.cells C 132 (0,0))):SwQ wb b K F M' C w w':=by
  obtain ⟨K',F',hk,hm,hs,hu,hsb⟩:=h.ex
  have hn':wb∉F':=fun hm=>by
    rcases hsb wb hm with h | h
    · exact hn h
    · omega
  refine ⟨⟨K',F',hk.upd u (fun k hk=>by simp; rintro rfl; exact hn' hk),hm,hs,hn',(hu.mono (fun k hk=>by simp [hk])).then u (fun k hk=>.inl (by simp at hk; simp [hk])),fun k hk=>?_⟩,hb⟩
  rcases List.mem_cons.1 hk with rfl | hk
  · exact .inl (by simp)
  · exact (hsb k hk).imp (fun h=>by simp [h]) id
set_option maxRecDepth 100000 in
set_option maxHeartbeats 1600000 in
theorem sexch_spec (wb b:Nat) (K:KV) (F:List Nat) (M:MV) (at_ at' best place g sw last:Nat) (st:Value) (l d:Int) (w:World) (hb:w.heap[wb]?=some (.cells (swC b at_ best place g sw last st) 132 (0,0))) (h:KerAt w b K F) (hm:KM K M) (hn:wb∉F) (ht:M.trail.length≤1000000)
    (hd:M.exchE l=0→(at_:Int) + d=at') (hsw:sw≤1000000) (hat:at'≤64) :
    Calls Tryz.prog 162 #[.pointer (some ⟨wb,0,none⟩),.int .i64 l,.int .i64 d] w fun e w'=>e=.returned (.int .i64 (M.exchE l))∧SwQ wb b K F (M.exch l) (pickC (M.exchE l) (swC b at' best place g (sw + 1) last st) (swC b at_ best place g sw last st)) w w':=by
  have c0:w.cell? ⟨wb,0,none⟩=some (.pointer (some ⟨b,0,none⟩)):=cell_at hb rfl;have HX:=Lib.hid (exch_km b l K F M w h hm ht);have HB:=Lib.hid hb;have hl:=heap_lt hb;have HN:Hid (wb∉F):=hn;have hw1:IntKind.i64.wrap ((sw:Int) + 1)=(sw:Int) + 1:=IntWalk.i64_in _ (by omega);have HD:=Lib.hid hd;clear h hm hb hn hd;obtain ⟨E,hE⟩ : ∃ E,M.exchE l=E:=⟨_,rfl⟩;rw [hE] at HX ⊢;have HE:=Lib.hid hE;clear hE
  go_enter Tryz.func162,Tryz.ntmps162
  go_wp2_with fail;refine HX.out.mono ?_;rintro e w1 ⟨rfl,hK⟩;obtain ⟨K',F',_,_,_,hu,_⟩:=hK.ex;have hb1:=(hu.block wb hl HN.out).trans HB.out;have HK:=Lib.hid (And.intro hK hb1);have x5:w1.cell? ⟨wb,5,none⟩=some (.int .i64 sw):=cell_at hb1 rfl;have x1:w1.cell? ⟨wb,1,none⟩=some (.int .i64 at_):=cell_at hb1 rfl;have f5:=frozen_at 5 hb1;have f1:=frozen_at 1 hb1;clear hK hu c0 hb1
  by_cases he:E=0
  · subst he
    have hd:=HD.out HE.out
    have hw2:IntKind.i64.wrap ((at_:Int) + d)=(at':Int):=by rw [hd]; exact IntWalk.i64_in _ (by omega)
    have HQ:Hid (SwQ wb b K F (M.exch l) (swC b at' best place g (sw + 1) last st) w ((w1.setCell ⟨wb,5,none⟩ (.int .i64 ((sw:Int) + 1))).setCell ⟨wb,1,none⟩ (.int .i64 at'))):=by
      refine SwQ.of HN.out hl HK.out.1 (((Upd.refl _ w1).setCell (p:=⟨wb,5,none⟩) (.inl (by simp)) _).setCell (p:=⟨wb,1,none⟩) (.inl (by simp)) _) ?_
      rw [heap_set_eq (heap_set_eq HK.out.2 _)]; rfl
    clear hd;go_wp2_with fail;go_ret;exact ⟨rfl,HQ.out⟩
  · have he2:(E == 0)=false:=by simpa using he
    have he3:decide (E=0)=false:=decide_eq_false he;have HQ:Hid (SwQ wb b K F (M.exch l) (swC b at_ best place g sw last st) w w1):=SwQ.of HN.out hl HK.out.1 (Upd.refl _ w1) HK.out.2;go_wp2_with fail;go_ret;refine ⟨rfl,?_⟩;unfold pickC;rw [if_neg he];exact HQ.out
def stepV (down:Bool) (bx:Nat):Value:=.func (.func (if down then 161 else 163)) #[] #[.pointer (some ⟨bx,0,none⟩)]
structure TowQ (wb b n:Nat) (down:Bool) (at_ best place g sw:Nat) (w:World) (e:Ending) (w':World):Prop where
  en:e=.returned (.tuple #[])
  ex:∃ bx,w.heap.size≤bx∧w'.heap[bx]?=some (.cells #[.pointer (some ⟨wb,0,none⟩)] 129 (0,0))∧w'.heap[wb]?=some (.cells (swC b at_ best place g sw (if down then n - 1 else 0) (stepV down bx)) 132 (0,0))
  up:Upd [wb] w w'
set_option maxRecDepth 100000 in
set_option maxHeartbeats 1600000 in
theorem toward_spec (wb b:Nat) (K:KV) (F:List Nat) (down:Bool) (at_ best place g sw last:Nat) (st:Value) (w:World) (hb:w.heap[wb]?=some (.cells (swC b at_ best place g sw last st) 132 (0,0))) (h:KerAt w b K F) :
    Calls Tryz.prog 72 #[.pointer (some ⟨wb,0,none⟩),.bool down] w fun e w'=>TowQ wb b K.vars down at_ best place g sw w e w':=by
  have hl:=heap_lt hb;have hvs:=h.ok.wf.vs;have HB:=Lib.hid hb
  have HK:Hid (∀ z,Upd [] w z→KerAt z b K F):=fun z u=>h.upd u (by simp)
  have hxw:w.heap.size≠wb:=by omega
  have hw1:IntKind.i64.wrap ((K.vars:Int) - 1)=((K.vars - 1:Nat):Int):=by rw [show ((K.vars:Int) - 1)=((K.vars - 1:Nat):Int) by omega]; exact IntWalk.i64_in _ (by omega)
  have hmf:∀ (fn:Fn) (first cap:Array Value) (w:World),(Instr.makeFunc fn first cap).run Tryz.prog w=.ok (.func fn first cap) w:=fun _ _ _ _=>rfl
  have hsf:∀ (a:Addr) (m:Mode) (fn:Fn) (first cap:Array Value) (w:World),(store a (.func fn first cap) m).run Tryz.prog w=stored Tryz.prog w a (.func fn first cap) m:=fun a m fn first cap w=>run_store Tryz.prog w a _ m rfl
  have c0:w.cell? ⟨wb,0,none⟩=some (.pointer (some ⟨b,0,none⟩)):=cell_at hb rfl;have c6:w.cell? ⟨wb,6,none⟩=some (.int .i64 last):=cell_at hb rfl;have c7:w.cell? ⟨wb,7,none⟩=some st:=cell_at hb rfl;have f6:=frozen_at 6 hb;have f7:=frozen_at 7 hb;clear hb h;have hbx:=heap_alloc_new w (.cells #[.pointer (some ⟨wb,0,none⟩)] 129 (0,0));have u1:=(Upd.refl [] w).alloc (.cells #[.pointer (some ⟨wb,0,none⟩)] 129 (0,0));have hb1:=(heap_alloc_old w (.cells #[.pointer (some ⟨wb,0,none⟩)] 129 (0,0)) hl).trans HB.out;obtain ⟨W1,hW1⟩ : ∃ W1,w.alloc (.cells #[.pointer (some ⟨wb,0,none⟩)] 129 (0,0))=W1:=⟨_,rfl⟩;rw [hW1] at hbx u1 hb1;have HW:=Lib.hid hW1;have HX:=Lib.hid (And.intro hbx (And.intro u1 hb1));have d0:W1.cell? ⟨wb,0,none⟩=some (.pointer (some ⟨b,0,none⟩)):=cell_at hb1 rfl;have d6:W1.cell? ⟨wb,6,none⟩=some (.int .i64 last):=cell_at hb1 rfl;have d7:W1.cell? ⟨wb,7,none⟩=some st:=cell_at hb1 rfl;have e6:=frozen_at 6 hb1;have e7:=frozen_at 7 hb1;have dx:W1.cell? ⟨w.heap.size,0,none⟩=some (.pointer (some ⟨wb,0,none⟩)):=cell_at hbx rfl
  have HE:Hid (∀ (n:Int) (z:World),z=W1∨(∃ k,z=W1.drewN k)→n=((if down then K.vars - 1 else 0:Nat):Int)→TowQ wb b K.vars down at_ best place g sw w (.returned (.tuple #[])) ((z.setCell ⟨wb,6,none⟩ (.int .i64 n)).setCell ⟨wb,7,none⟩ (stepV down w.heap.size))):=by
    intro n z hz hn
    subst hn
    have hz1:z.heap=W1.heap:=by rcases hz with rfl | ⟨k,rfl⟩ <;> rfl
    have hz2:Upd [] w z:=by
      rcases hz with rfl | ⟨k,rfl⟩
      · exact HX.out.2.1
      · exact HX.out.2.1.drewN k
    refine ⟨rfl,⟨w.heap.size,Nat.le_refl _,by rw [heap_set_ne hxw,heap_set_ne hxw,hz1]; exact HX.out.1,by rw [heap_set_eq (heap_set_eq (by rw [hz1]; exact HX.out.2.2) _)]; cases down <;> rfl⟩,((((hz2.mono (by simp))).setCell (p:=⟨wb,6,none⟩) (.inl (by simp)) _).setCell (p:=⟨wb,7,none⟩) (.inl (by simp)) _)⟩
  have HV:Hid (∀ z,Upd [] W1 z→Calls Tryz.prog 54 #[.pointer (some ⟨b,0,none⟩)] z fun e w'=>e=.returned (.int .i64 K.vars)∧w'=z):=fun z u=>vars_at b K F z (HK.out z (HX.out.2.1.trans u))
  clear c0 c6 c7 f6 f7 hbx u1 hb1 hW1
  cases down with
  | true =>
    go_enter Tryz.func72,Tryz.ntmps72
    go_upto_region 2 with fail;rw [HW.out]
    go_region_with (go_at_call 54; refine (HV.out _ (by first | exact (Upd.refl _ _).drew | exact (Upd.refl _ _))).mono ?_; rintro e w1 ⟨rfl,rfl⟩)
    all_goals
      go_wp2_with fail;go_end0;exact HE.out _ _ (.inr ⟨1,rfl⟩) rfl
  | false =>
    go_enter Tryz.func72,Tryz.ntmps72
    go_upto_region 4 with fail;rw [HW.out];go_wp2_with fail;go_end0;exact HE.out _ _ (.inl rfl) rfl
end Go.Proofs.YtpfafhmkbcahhaaGreat
namespace Go.Proofs.YtpfafhmkbcahhaaGreat
open Go.RowKit Go.Maps Go.ChangeMaps Go.WideShapes
set_option maxRecDepth 100000 in
set_option maxHeartbeats 1600000 in
theorem step1_spec (wb bx b:Nat) (K:KV) (F:List Nat) (M:MV) (at_ best place g sw last:Nat) (st:Value) (w:World) (hb:w.heap[wb]?=some (.cells (swC b at_ best place g sw last st) 132 (0,0))) (hx:w.heap[bx]?=some (.cells #[.pointer (some ⟨wb,0,none⟩)] 129 (0,0)))
    (h:KerAt w b K F) (hm:KM K M) (hn:wb∉F) (ht:M.trail.length≤1000000) (hsw:sw≤1000000) (hat:at_ + 1≤64) :
    Calls Tryz.prog 161 #[.pointer (some ⟨bx,0,none⟩)] w fun e w'=>e=.returned (.int .i64 (M.exchE at_))∧SwQ wb b K F (M.exch at_) (pickC (M.exchE at_) (swC b (at_ + 1) best place g (sw + 1) last st) (swC b at_ best place g sw last st)) w w':=by
  have c0:w.cell? ⟨bx,0,none⟩=some (.pointer (some ⟨wb,0,none⟩)):=cell_at hx rfl;have c1:w.cell? ⟨wb,1,none⟩=some (.int .i64 at_):=cell_at hb rfl
  have HC:Hid (∀ z,Upd [] w z→Calls Tryz.prog 162 #[.pointer (some ⟨wb,0,none⟩),.int .i64 at_,.int .i64 1] z fun e w'=>e=.returned (.int .i64 (M.exchE at_))∧SwQ wb b K F (M.exch at_) (pickC (M.exchE at_) (swC b (at_ + 1) best place g (sw + 1) last st) (swC b at_ best place g sw last st)) z w'):=fun z u =>
    sexch_spec wb b K F M at_ (at_ + 1) best place g sw last st at_ 1 z ((u.block wb (heap_lt hb) (by simp)).trans hb) (h.upd u (by simp)) hm hn ht (fun _=>by simp) hsw hat
  have HU:Hid (∀ z w',Upd [] w z→SwQ wb b K F (M.exch at_) (pickC (M.exchE at_) (swC b (at_ + 1) best place g (sw + 1) last st) (swC b at_ best place g sw last st)) z w'→SwQ wb b K F (M.exch at_) (pickC (M.exchE at_) (swC b (at_ + 1) best place g (sw + 1) last st) (swC b at_ best place g sw last st)) w w'):=fun z w' u q=>by
    obtain ⟨K',F',a1,a2,a3,a4,a5,a6⟩:=q.ex;exact ⟨⟨K',F',a1,a2,a3,a4,(u.mono (by simp)).trans a5,fun k hk=>(a6 k hk).imp id fun h=>Nat.le_trans u.size h⟩,q.blk⟩
  clear hb hx h hm hn
  go_enter Tryz.func161,Tryz.ntmps161
  go_wp2_with fail
  go_region_with (go_at_call 162; refine (HC.out _ (by first | exact (Upd.refl _ _).drew | exact (Upd.refl _ _))).mono ?_; rintro e w1 ⟨rfl,q⟩; have HQ:=Lib.hid (HU.out _ _ (by first | exact (Upd.refl _ _).drew | exact (Upd.refl _ _)) q); clear q)
  all_goals
    go_wp2_with fail;go_ret;exact ⟨rfl,HQ.out⟩
set_option maxRecDepth 100000 in
set_option maxHeartbeats 1600000 in
theorem step2_spec (wb bx b:Nat) (K:KV) (F:List Nat) (M:MV) (at_ best place g sw last:Nat) (st:Value) (w:World) (hb:w.heap[wb]?=some (.cells (swC b at_ best place g sw last st) 132 (0,0))) (hx:w.heap[bx]?=some (.cells #[.pointer (some ⟨wb,0,none⟩)] 129 (0,0)))
    (h:KerAt w b K F) (hm:KM K M) (hn:wb∉F) (ht:M.trail.length≤1000000) (hsw:sw≤1000000) (hat:at_≤64) (h1:1≤at_) :
    Calls Tryz.prog 163 #[.pointer (some ⟨bx,0,none⟩)] w fun e w'=>e=.returned (.int .i64 (M.exchE (at_ - 1:Nat)))∧SwQ wb b K F (M.exch (at_ - 1:Nat)) (pickC (M.exchE (at_ - 1:Nat)) (swC b (at_ - 1) best place g (sw + 1) last st) (swC b at_ best place g sw last st)) w w':=by
  have c0:w.cell? ⟨bx,0,none⟩=some (.pointer (some ⟨wb,0,none⟩)):=cell_at hx rfl;have c1:w.cell? ⟨wb,1,none⟩=some (.int .i64 at_):=cell_at hb rfl
  have hw1:IntKind.i64.wrap ((at_:Int) - 1)=((at_ - 1:Nat):Int):=by rw [show ((at_:Int) - 1)=((at_ - 1:Nat):Int) by omega]; exact IntWalk.i64_in _ (by omega)
  have HC:Hid (∀ z,Upd [] w z→Calls Tryz.prog 162 #[.pointer (some ⟨wb,0,none⟩),.int .i64 (at_ - 1:Nat),.int .i64 (-1)] z fun e w'=>e=.returned (.int .i64 (M.exchE (at_ - 1:Nat)))∧SwQ wb b K F (M.exch (at_ - 1:Nat)) (pickC (M.exchE (at_ - 1:Nat)) (swC b (at_ - 1) best place g (sw + 1) last st) (swC b at_ best place g sw last st)) z w'):=fun z u =>
    sexch_spec wb b K F M at_ (at_ - 1) best place g sw last st (at_ - 1:Nat) (-1) z ((u.block wb (heap_lt hb) (by simp)).trans hb) (h.upd u (by simp)) hm hn ht (fun _=>by omega) hsw (by omega)
  have HU:Hid (∀ z w',Upd [] w z→SwQ wb b K F (M.exch (at_ - 1:Nat)) (pickC (M.exchE (at_ - 1:Nat)) (swC b (at_ - 1) best place g (sw + 1) last st) (swC b at_ best place g sw last st)) z w'→SwQ wb b K F (M.exch (at_ - 1:Nat)) (pickC (M.exchE (at_ - 1:Nat)) (swC b (at_ - 1) best place g (sw + 1) last st) (swC b at_ best place g sw last st)) w w'):=fun z w' u q=>by
    obtain ⟨K',F',a1,a2,a3,a4,a5,a6⟩:=q.ex;exact ⟨⟨K',F',a1,a2,a3,a4,(u.mono (by simp)).trans a5,fun k hk=>(a6 k hk).imp id fun h=>Nat.le_trans u.size h⟩,q.blk⟩
  clear hb hx h hm hn
  go_enter Tryz.func163,Tryz.ntmps163
  go_wp2_with fail
  go_region_with (go_at_call 162; refine (HC.out _ (by first | exact (Upd.refl _ _).drew | exact (Upd.refl _ _))).mono ?_; rintro e w1 ⟨rfl,q⟩; have HQ:=Lib.hid (HU.out _ _ (by first | exact (Upd.refl _ _).drew | exact (Upd.refl _ _)) q); clear q)
  all_goals
    go_wp2_with fail;go_ret;exact ⟨rfl,HQ.out⟩
end Go.Proofs.YtpfafhmkbcahhaaGreat
