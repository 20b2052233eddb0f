import Derived.Test.YtpfafhmkbcahhaaGreatPS6
import Derived.Test.YtpfafhmkbcahhaaGreatPS2
import Derived.Test.YtpfafhmkbcahhaaGreatPS9
import Derived.Test.YtpfafhmkbcahhaaGreatPS3
namespace Go.Proofs.YtpfafhmkbcahhaaGreat
open Go.RowKit Go.Maps Go.ChangeMaps Go.WideShapes
theorem set_same {α : Type}:∀ (l:List α) (j:Nat) (a:α),l[j]?=some a→l.set j a=l
  | [],_,_,h=>by simp at h
  | b :: r,0,a,h=>by simp at h; subst h; rfl
  | b :: r,j + 1,a,h=>by simp at h; simp [set_same r j a h]
theorem flat_set3 {L:List PlaceV} {r:Nat} {p:PlaceV} (hp:L[r]?=some p) (v:Int) (lo hi:Nat) :
    flatPlaces (L.set r { p with var:=v,lo:=lo,hi:=hi })=(((flatPlaces L).set (r * 5) (.int .i64 v)).set (r * 5 + 1) (.int .u32 lo)).set (r * 5 + 2) (.int .u32 hi):=by
  have h3:(flatPlaces L)[r * 5 + 3]?=some (.bool p.taken):=by rw [flat_get _ _ _ (by omega),hp]; rfl
  have h4:(flatPlaces L)[r * 5 + 4]?=some (.int .u8 p.count):=by rw [flat_get _ _ _ (by omega),hp]; rfl
  rw [flat_set]
  show ((((((flatPlaces L).set (r * 5) (.int .i64 v)).set (r * 5 + 1) (.int .u32 lo)).set (r * 5 + 2) (.int .u32 hi)).set (r * 5 + 3) (.bool p.taken)).set (r * 5 + 4) (.int .u8 p.count))=_
  rw [set_same _ (r * 5 + 3),set_same _ (r * 5 + 4)]
  · rw [List.getElem?_set_ne (by omega),List.getElem?_set_ne (by omega),List.getElem?_set_ne (by omega)]; exact h4
  · rw [List.getElem?_set_ne (by omega),List.getElem?_set_ne (by omega),List.getElem?_set_ne (by omega)]; exact h3
theorem aset_end {w:World} {b l lc r lo hi:Nat} {v:Int} {F:List Nat} {fv:Value} {A:ArenaV} {p:PlaceV} (hok:A.Ok) (h2:2≤r) (hp:A.list[r]?=some p) (h32:lo≤4294967295∧hi≤4294967295)
    (h5:w.heap[b]?=some (.cells #[.int .i64 A.places,.slice (some ⟨l,0,none⟩) A.list.length lc,fv,.int .i64 A.used] 271 (0,0)))
    (h6:w.ownsRow 0 315 5 (.slice (some ⟨l,0,none⟩) A.list.length lc) A.list.length (flatPlaces A.list)) (h7:w.ownsRow 0 54 1 fv A.free.length (flatRefs A.free))
    (hF:F=[b,l] ++ fv.ownBlock.toList) (hbl:b≠l) (hbf:some b≠fv.ownBlock) (hlf:some l≠fv.ownBlock) :
    ArenaAt (((w.setCell ⟨l,r * 5,none⟩ (.int .i64 v)).setCell ⟨l,r * 5 + 1,none⟩ (.int .u32 lo)).setCell ⟨l,r * 5 + 2,none⟩ (.int .u32 hi)) b (A.setNode r v lo hi) F ∧
      Upd F w (((w.setCell ⟨l,r * 5,none⟩ (.int .i64 v)).setCell ⟨l,r * 5 + 1,none⟩ (.int .u32 lo)).setCell ⟨l,r * 5 + 2,none⟩ (.int .u32 hi)):=by
  have hlt:=(List.getElem?_eq_some_iff.1 hp).1
  have hl:(A.setNode r v lo hi).list=A.list.set r { p with var:=v,lo:=lo,hi:=hi }:=by simp only [ArenaV.setNode,hp]
  have hlen:(A.setNode r v lo hi).list.length=A.list.length:=by rw [hl,List.length_set]
  have hus:(A.setNode r v lo hi).used=A.used:=by simp only [ArenaV.setNode]
  have hpl:(A.setNode r v lo hi).places=A.places:=by simp only [ArenaV.setNode]
  have hfr:(A.setNode r v lo hi).free=A.free:=by simp only [ArenaV.setNode]
  refine ⟨⟨⟨l,lc,fv,?_,?_,?_,hF,hbl,hbf,hlf⟩,hok.setNode h2 h32.1 h32.2⟩,?_⟩
  · rw [hlen,hus,hpl,heap_set_ne hbl,heap_set_ne hbl,heap_set_ne hbl]; exact h5
  · rw [hlen,hl,flat_set3 hp]
    exact row_set (row_set (row_set h6 (by omega) _) (by omega) _) (by omega) _
  · rw [hfr]
    exact row_ne (row_ne (row_ne h7 (a:=⟨l,r * 5,none⟩) hlf _) (a:=⟨l,r * 5 + 1,none⟩) hlf _) (a:=⟨l,r * 5 + 2,none⟩) hlf _
  · exact (((Upd.refl F w).setCell (p:=⟨l,r * 5,none⟩) (.inl (by simp [hF])) _).setCell (p:=⟨l,r * 5 + 1,none⟩) (.inl (by simp [hF])) _).setCell (p:=⟨l,r * 5 + 2,none⟩) (.inl (by simp [hF])) _
set_option maxRecDepth 100000 in
set_option maxHeartbeats 1600000 in
theorem aset_ok (b:Nat) (F:List Nat) (r lo hi v:Nat) (A:ArenaV) (p:PlaceV) (w:World) (h:ArenaAt w b A F) (hr32:r≤4294967295) (h2:2≤r) (hp:A.list[r]?=some p) (hpt:p.taken=true) (h32:lo≤4294967295∧hi≤4294967295) (hv:v < 64) (t1:A.tk lo=true) (t2:A.tk hi=true) :
    Calls Tryz.prog 208 #[.pointer (some ⟨b,0,none⟩),.int .u32 r,.agg #[.int .i64 v,.int .u32 lo,.int .u32 hi]] w fun e w'=>e=.returned (.int .i64 0)∧ArenaAt w' b (A.setNode r v lo hi) F∧Upd F w w':=by
  have HO:Hid (A.ownE r=0):=ArenaV.ownE_ok h2 (ArenaV.tk_iff.2 ⟨p,hp,hpt⟩)
  have HC:Hid (A.checkE v lo hi=0):=by
    show A.checkE v lo hi=0
    unfold ArenaV.checkE;rw [if_neg (by omega),if_neg (by simp [t1,t2])]
  have hlt:=(List.getElem?_eq_some_iff.1 hp).1;have HA:=Lib.hid h;have HP:=Lib.hid (And.intro hp h.ok);clear h hp hpt t1 t2
  go_enter Tryz.func208,Tryz.ntmps208
  go_wp2_with fail;refine (check_spec b F v lo hi A _ (HA.out.upd ((Upd.refl [] w).alloc _) (by simp)) h32.1 h32.2).mono ?_;rintro e w1 ⟨rfl,hu⟩;rw [HC.out];have HU:=Lib.hid (((Upd.refl [] w).alloc (.cells #[.int .i64 v,.int .u32 lo,.int .u32 hi] 115 (0,0))).trans hu);have hbx:=(hu.block _ (heap_lt (heap_alloc_new w (.cells #[.int .i64 v,.int .u32 lo,.int .u32 hi] 115 (0,0)))) (by simp)).trans (heap_alloc_new w _);have x0:=cell_at (j:=0) hbx rfl;have x1:=cell_at (j:=1) hbx rfl;have x2:=cell_at (j:=2) hbx rfl;have HBX:=Lib.hid hbx;clear hu hbx;go_wp2_with fail;refine (own_spec b F r A _ (HA.out.upd HU.out (by simp)) hr32).mono ?_;rintro e w2 ⟨rfl,rfl⟩;rw [HO.out];have hA1:=HA.out.upd HU.out (by simp);obtain ⟨l,lc,fv,h5,h6,h7,hF',hbl,hbf,hlf⟩:=hA1.cells;have hc1:w1.cell? ⟨b,1,none⟩=some (.slice (some ⟨l,0,none⟩) A.list.length lc):=cell_at h5 rfl;obtain ⟨g0,g1,g2,_,_,z0,z1,z2,_,_⟩:=place_cells h6 HP.out.1
  have hlx:w.heap.size≠l:=by
    have hl:=HA.out.lt l
    have:l∈F:=by rw [hF']; simp
    have:=hl this;omega
  have HE:=Lib.hid (aset_end (v:=v) HP.out.2 h2 HP.out.1 h32 (w:=w1.drew) h5 (row_drew h6) (row_drew h7) hF' hbl hbf hlf)
  have hri:(r:Int) < (A.list.length:Int):=by omega
  clear h5 h6 h7 hA1 hF' hbf hlf;go_wp2_with fail
  go_region
  go_wp2_with fail;go_ret;exact ⟨rfl,HE.out.1,((HU.out.mono (by simp)).drew).trans HE.out.2⟩
end Go.Proofs.YtpfafhmkbcahhaaGreat
namespace Go.Proofs.YtpfafhmkbcahhaaGreat
open Go.RowKit Go.Maps Go.ChangeMaps Go.WideShapes
theorem Mid.same {K0 K K':KV} {l x y:Nat} {R:List Nat} {D:Nat→(Nat→Bool)→Bool} (h:Mid K0 l x y R K D) (hA:K'.A=K.A) (vr:K'.vars=K.vars) (od:K'.order=K.order) (lv:K'.level=K.level) (hd:∀ r,K'.hold r=K.hold r) (tr:K'.trail=K.trail):Mid K0 l x y R K' D:=by
  have low:∀ {r},Low K0 l x K r→Low K0 l x K' r:=fun {r} hr=>hr.mono fun p hp _=>by rw [hA]; exact hp
  refine ⟨by rw [vr,h.vr],by rw [od,h.od],by rw [lv,h.lv],fun r=>by rw [hd,h.hd],by rw [tr,h.tr],by rw [hA,h.pl],h.rc,h.rn,by rw [hA]; exact h.old,fun r hc hr=>?_,by rw [hA]; exact h.nw,by rw [hA]; exact h.sem,h.dold⟩;obtain ⟨p,hp,hpt,hv,h1,h2,h3⟩:=h.cr r hc hr;exact ⟨p,by rw [hA]; exact hp,hpt,hv,low h1,low h2,h3⟩
structure St (K0:KV) (l x y:Nat) (N:List (Nat × Nat)) (R:List Nat) (K:KV) (T:List DM) (P:List Nat) (D:Nat→(Nat→Bool)→Bool) (M:List (Nat × Nat)):Prop where
  mid:Mid K0 l x y R K D
  wf:K.Wf P
  ti:TInv T K R
  pos:K.Pos
  cnt:CntN K0 K x N M
theorem KV.Wf.useA {K:KV} {P:List Nat} (h:K.Wf P) {r:Nat} (ht:K.A.tk r=true):(K.useA r).Wf (r :: P):=by
  unfold KV.useA;split
  · rename_i h2; exact h.useK h2 ht
  · exact h.pend01 (by omega)
theorem KV.Pos.useA {K:KV} {P:List Nat} (h:K.Wf P) {r:Nat} (ht:K.A.tk r=true) (hp:∀ s,2≤s→K.A.tk s=true→s≠r→0 < K.use s) (hr:2≤r→0 < K.use r∨True):(K.useA r).Pos:=by
  intro s h2 hs
  rw [KV.useA_A] at hs;rw [KV.useA_use K r s (fun h3=>h.tu r h3 ht)]
  by_cases e:s=r
  · subst e; rw [if_pos ⟨rfl,h2⟩]; omega
  · have:=hp s h2 hs e; omega
theorem St.get {K0 K K':KV} {l x y r:Nat} {q:Nat × Nat} {N Q M:List (Nat × Nat)} {R P:List Nat} {T T':List DM} {D:Nat→(Nat→Bool)→Bool} (h:St K0 l x y N R K T P D M) (nb:Nb K0 l x y) (F:FrN K0 x Q N) (hq:q∈Q)
    (ha:Deep K0 l q.1) (hb:Deep K0 l q.2) (hroom:K0.A.used + N.length≤K0.A.places) (G:GetR K R x q.1 q.2 r K') (ti:TInv T' K' R) :
    ∃ D' M',St K0 l x y N R (K'.useA r) T' (r :: P) D' M'∧Low K0 l x (K'.useA r) r∧(∀ z,D' r z=if z x then K0.den q.2 z else K0.den q.1 z)∧(∀ s,K.A.tk s=true→∀ z,D' s z=D s z) ∧
      (∀ (s:Nat) (p:PlaceV),K.A.list[s]?=some p→p.taken=true→(K'.useA r).A.list[s]?=some p):=by
  obtain ⟨D',hm,hlow,hden,hagree,hkeep⟩:=h.mid.get nb h.wf ha hb G;have ta:=h.mid.tk ha.1;have tb:=h.mid.tk hb.1;obtain ⟨hx,_⟩:=nb.facts
  have hxv:x < K.vars:=by rw [h.mid.vr]; exact hx
  have hwf:K'.Wf P:=by
    rcases G with ⟨_,_,rfl⟩ | ⟨_,_,rfl⟩ | ⟨_,Tk,_⟩
    · exact h.wf
    · exact h.wf
    · exact Tk.wf h.wf ta tb ⟨by omega,by omega⟩
  have hpos:∀ s,2≤s→K'.A.tk s=true→s≠r→0 < K'.use s:=fun s h2 hs hne=>by
    rcases G with ⟨_,_,rfl⟩ | ⟨_,_,rfl⟩ | ⟨_,Tk,_⟩
    · exact h.pos s h2 hs
    · exact h.pos s h2 hs
    · rw [Tk.fr.tk] at hs
      simp [hne] at hs
      have:=h.pos s h2 hs
      rw [Tk.us,if_neg hne]; omega
  have hcnt:∃ M',CntN K0 K' x N M':=by
    rcases G with ⟨_,_,rfl⟩ | ⟨_,_,rfl⟩ | ⟨hne,Tk,hno⟩
    · exact ⟨M,h.cnt⟩
    · exact ⟨M,h.cnt⟩
    · have hn3:¬ K.has3 x q.1 q.2:=fun ⟨s,p,h2,hp,hpt,hv,e1,e2⟩=>hno s p (h.mid.has3_not nb hp (by rw [e1]; exact ha) (by rw [e2]; exact hb)) h2 hp hpt ⟨hv,e1,e2⟩
      obtain ⟨h1,h2,_⟩:=h.cnt.room F h.mid nb ha hb hq hne hn3 hroom;exact ⟨_,h.cnt.took Tk h1 h2⟩
  obtain ⟨M',hcnt⟩:=hcnt;have hA:=KV.useA_A K' r;refine ⟨D',M',⟨hm.same hA (KV.useA_vars _ _) (KV.useA_order _ _) (KV.useA_level _ _) (KV.useA_hold _ _) (KV.useA_trail _ _),hwf.useA hlow.1,ti.same hA (KV.useA_vars _ _),KV.Pos.useA hwf hlow.1 hpos fun _=>.inr trivial,hcnt.same (by rw [hA]) fun a b h3=>by unfold KV.has3 at *; rw [hA]; exact h3⟩,hlow.mono fun p hp _=>by rw [hA]; exact hp,hden,hagree,fun s p hp hpt=>by rw [hA]; exact hkeep s p hp hpt⟩
theorem St.turn {K0 K:KV} {l x y lo hi a00 a01 a10 a11 c:Nat} {p:PlaceV} {N Q M:List (Nat × Nat)} {R P:List Nat} {T:List DM} {DY:DM} {D:Nat→(Nat→Bool)→Bool} (h:St K0 l x y N (c :: R) K T (hi :: lo :: P) D M) (nb:Nb K0 l x y) (F:FrN K0 x Q N) (hQ:∀ q,q∈Q→Deep K0 l q.1∧Deep K0 l q.2)
    (F4:Four K0 l x y c p a00 a01 a10 a11) (hlo:Low K0 l x K lo) (hhi:Low K0 l x K hi) (dlo:∀ z,D lo z=if z x then K0.den a10 z else K0.den a00 z) (dhi:∀ z,D hi z=if z x then K0.den a11 z else K0.den a01 z)
    (h32:lo≤4294967295∧hi≤4294967295) (hD:T[y]?=some DY) :
    St K0 l x y N R (K.turnN c y lo hi) (T.set y (DY.put (nk y lo hi) (.lit (.int .u32 c)))) (p.lo :: p.hi :: P) D M:=by
  obtain ⟨_,hy,_⟩:=nb.facts;obtain ⟨hm,hne,hp⟩:=h.mid.turn nb F4 hlo hhi dlo dhi
  have hyv:y < K.vars:=by rw [h.mid.vr]; exact hy
  have hc2:2≤c:=(h.mid.rc c (by simp)).1;have hcR:=(List.nodup_cons.1 h.mid.rn).1;have hwf:K.Wf (lo :: hi :: P):=h.wf.perm (List.Perm.swap _ _ _)
  have at_:=fun s=>setNode_at (A:=K.A) (v:=(y:Int)) (lo:=lo) (hi:=hi) hp s
  refine ⟨hm,hwf.turnN hc2 hp F4.tk hyv h32,h.ti.turnN h.wf hcR hc2 hp F4.tk hyv h32 hD fun s q h2 hq hqt hs=>h.mid.turn_new nb F4 dlo dhi h2 hq hqt hs,fun s h2 hs=>?_,h.cnt.turnN h.mid nb F hQ⟩
  have hs':K.A.tk s=true:=by
    have e:(K.A.setNode c (y:Int) lo hi).tk s=true:=hs;unfold ArenaV.tk at e ⊢;rw [at_] at e
    by_cases e1:s=c
    · subst e1; rw [hp]; exact F4.tk
    · rw [if_neg e1] at e; exact e
  exact h.pos s h2 hs'
end Go.Proofs.YtpfafhmkbcahhaaGreat
namespace Go.Proofs.YtpfafhmkbcahhaaGreat
open Go.RowKit Go.Maps Go.ChangeMaps Go.WideShapes
theorem Tryz.infoIntE:(Tryz.prog.info? 3).map (fun i=>(i.zero,i.size,i.bytes))=some (some (.int .i64 0),1,8):=by kernel_rfl
set_option maxRecDepth 100000 in
set_option maxHeartbeats 800000 in
theorem crossings_bare (b x y:Nat) (K:KV) (T:List DM) (q:KPtr) (w:World) (h:KerIn w b K T q) (hb:K.A.used=2) (hx:x < K.vars) :
    Calls Tryz.prog 202 #[.pointer (some ⟨b,0,none⟩),.int .i64 x,.int .i64 y] w fun e w'=>e=.returned (.slice none 0 0)∧Upd [] w w':=by
  have hT:x < T.length:=by rw [h.ti.len]; exact hx
  have hD:T[x]?=some T[x]:=List.getElem?_eq_getElem hT;have hem:=h.ti.bare h.ok.wf hb hD
  have hsz:Maps.size T[x]≤1048576:=by
    obtain ⟨_,_,_,_,_,_,_,_,ho⟩:=h.mem.tab.cells hD;exact h.ti.size h.ok.wf hD (ho.canon nodeKeyed) (ho.tidy nodeKeyed)
  have HR:=Lib.hid (refs_empty q.t q.FT x T T[x] w h.mem.tab hD hem hsz);have c1:w.cell? ⟨b,1,none⟩=some (.pointer (some ⟨q.t,0,none⟩)):=cell_at h.mem.blk rfl;clear h hb hD hem hsz
  go_enter Tryz.func202,Tryz.ntmps202
  go_wp2_with fail;refine HR.out.mono ?_;rintro e w1 ⟨a,c,rfl,hu⟩;have HU:=Lib.hid hu;clear hu HR c1;go_wp2_with fail
  go_loopg [7,26] 0 (fun gg s7 s26 wr=>gg=0∧s7=.slice none 0 0∧s26=.int .i64 0∧wr=w1)
  case atStart=>exact ⟨rfl,rfl,rfl,rfl⟩
  case round =>
    obtain ⟨rfl,rfl,rfl,rfl⟩:=hrel;go_wp2_with fail;go_ret;exact ⟨rfl,HU.out⟩
theorem own_emptyN {W:World} {mb:Nat} (h:W.heap[mb]?=some (.map #[] 0)):W.ownsMap Tryz.prog 115 (plainElem (H:=Unit) Tryz.prog 3) mb 0 (.map []):=by
  obtain ⟨es,clock,q1,q2,q3,q4⟩:=World.ownsMap_made W Tryz.prog 115 (plainElem (H:=Unit) Tryz.prog 3);rw [heap_alloc_new] at q1;cases q1;exact ⟨#[],0,h,q2,Nat.zero_le _,rfl⟩
theorem rowN_cell {w:World} {base g n' c:Nat} {l:List Nat} {n:Nat} (h:w.ownsRow base 3 1 (.slice (some ⟨g,0,none⟩) n' c) n (flatN l)) {j:Nat} (hj:j < l.length):w.cell? ⟨g,j,none⟩=some (.int .i64 (l.getD j 0:Nat)) :=
  row_cell h (by rw [flatN,List.getElem?_map,getD_eq_some hj]; rfl)
set_option maxRecDepth 100000 in
set_option maxHeartbeats 800000 in
theorem fresh_none (b:Nat) (x:Int) (w:World):Calls Tryz.prog 204 #[.pointer (some ⟨b,0,none⟩),.int .i64 x,.slice none 0 0] w fun e w'=>e=.returned (.int .i64 0)∧Upd [] w w':=by
  have hmm:=@run_makeMap Tryz.prog;have HM:=Lib.hid (own_emptyN (heap_alloc_new w (.map #[] 0)));have HU:=Lib.hid ((Upd.refl [] w).alloc (.map #[] 0))
  go_enter Tryz.func204,Tryz.ntmps204
  go_wp2_with fail
  have hlen:=fun ty=>HM.out.len Tryz.underlying312 ty
  go_loopg [17] 0 (fun gg s17 wr=>gg=0∧s17=.int .i64 0∧wr=w.alloc (.map #[] 0))
  case atStart=>exact ⟨rfl,rfl,rfl⟩
  case round =>
    obtain ⟨rfl,rfl,rfl⟩:=hrel;go_wp2_with fail;go_ret;exact ⟨rfl,HU.out⟩
structure TurnE (b:Nat) (K:KV) (q:KPtr) (l:Nat) (T:List DM) (w w':World):Prop where
  mem:KerMem w' b (K.swapK l) T q
  up:Upd (q.all b) w w'
theorem turn_end {b l go gl co cl n1 n2:Nat} {K:KV} {T:List DM} {q:KPtr} {w:World} (hm:KerMem w b K T q) (ho:q.ov=.slice (some ⟨go,0,none⟩) n1 co) (hv:q.lv=.slice (some ⟨gl,0,none⟩) n2 cl) (h1:l < K.order.length) (h2:l + 1 < K.order.length)
    (h3:K.order.getD l 0 < K.level.length) (h4:K.order.getD (l + 1) 0 < K.level.length) :
    KerMem ((((w.setCell ⟨go,l,none⟩ (.int .i64 (K.order.getD (l + 1) 0:Nat))).setCell ⟨go,l + 1,none⟩ (.int .i64 (K.order.getD l 0:Nat))).setCell ⟨gl,K.order.getD l 0,none⟩ (.int .i64 ((l:Int) + 1))).setCell ⟨gl,K.order.getD (l + 1) 0,none⟩ (.int .i64 l)).drew.drew b (K.swapK l) T q ∧
    Upd (q.all b) w ((((w.setCell ⟨go,l,none⟩ (.int .i64 (K.order.getD (l + 1) 0:Nat))).setCell ⟨go,l + 1,none⟩ (.int .i64 (K.order.getD l 0:Nat))).setCell ⟨gl,K.order.getD l 0,none⟩ (.int .i64 ((l:Int) + 1))).setCell ⟨gl,K.order.getD (l + 1) 0,none⟩ (.int .i64 l)).drew.drew:=by
  have m1:=hm.setOrder (n:=K.order.getD (l + 1) 0) ho h1;have m2:=m1.setOrder (n:=K.order.getD l 0) (r:=l + 1) ho (by simpa using h2);have m3:=m2.setLevel (n:=l + 1) (r:=K.order.getD l 0) hv h3;have m4:=m3.setLevel (n:=l) (r:=K.order.getD (l + 1) 0) hv (by rw [List.length_set]; exact h4);have go1:go∈q.all b:=KPtr.mem.2 (.inr (.inr (.inr (.inr (.inr (.inl (by rw [ho]; rfl)))))));have gl1:gl∈q.all b:=KPtr.mem.2 (.inr (.inr (.inr (.inr (.inr (.inr (.inl (by rw [hv]; rfl))))))))
  exact ⟨(m4.upd ((Upd.refl [] _).drew) (by simp)).upd ((Upd.refl [] _).drew) (by simp),
    ((((((Upd.refl (q.all b) w).setCell (p:=⟨go,l,none⟩) (.inl go1) _).setCell (p:=⟨go,l + 1,none⟩) (.inl go1) _).setCell (p:=⟨gl,_,none⟩) (.inl gl1) _).setCell (p:=⟨gl,_,none⟩) (.inl gl1) _).drew).drew⟩
set_option maxRecDepth 100000 in
set_option maxHeartbeats 3200000 in
theorem turn_bare (b l:Nat) (K:KV) (T:List DM) (q:KPtr) (w:World) (h:KerIn w b K T q) (hb:K.A.used=2) (hl:l + 2≤K.vars) :
    Calls Tryz.prog 136 #[.pointer (some ⟨b,0,none⟩),.int .i64 l] w fun e w'=>e=.returned (.bool true)∧TurnE b K q l T w w':=by
  have hw:=h.ok.wf;have hpm:=h.ok.ord.pm;have hvs:=hw.vs;have hol:=hpm.ol;have hll:=hpm.ll;have hx:=hpm.oo l (by omega);have hy:=hpm.oo (l + 1) (by omega);obtain ⟨x,hxe⟩ : ∃ x,K.order.getD l 0=x:=⟨_,rfl⟩;obtain ⟨y,hye⟩ : ∃ y,K.order.getD (l + 1) 0=y:=⟨_,rfl⟩
  have hxv:x < K.vars:=by rw [← hxe]; exact hx.1
  have hyv:y < K.vars:=by rw [← hye]; exact hy.1
  have hos:=h.mem.os;have hls:=h.mem.ls;obtain ⟨go,co,hqo,_,_⟩:=hos.form (by omega);obtain ⟨gl,cl,hql,_,_⟩:=hls.form (by omega);have HQ:=Lib.hid (And.intro hqo hql);rw [hqo] at hos;rw [hql] at hls
  have b5:w.cell? ⟨b,5,none⟩=some (.slice (some ⟨go,0,none⟩) K.order.length co):=by rw [← hqo]; exact cell_at h.mem.blk rfl
  have o0:w.cell? ⟨go,l,none⟩=some (.int .i64 x):=by rw [← hxe]; exact rowN_cell hos (by omega)
  have o1:w.cell? ⟨go,l + 1,none⟩=some (.int .i64 y):=by rw [← hye]; exact rowN_cell hos (by omega)
  have hli:(l:Int) < (K.order.length:Int):=by omega
  have hli1:(l:Int) + 1 < (K.order.length:Int):=by omega
  have hli2:0≤(l:Int) + 1:=by omega
  have hw1:IntKind.i64.wrap ((l:Int) + 1)=(l:Int) + 1:=IntWalk.i64_in _ (by omega);have HK:=Lib.hid h;have HB:=Lib.hid hb;clear hos hls hx hy;clear h hb hqo hql
  go_enter Tryz.func136,Tryz.ntmps136
  go_wp2_with fail
  go_region
  have HK1:=Lib.hid (HK.out.upd ((Upd.refl [] w).drew) (by simp));clear b5 o0 o1;go_wp2_with fail;refine (crossings_bare b x y K T q _ HK1.out HB.out hxv).mono ?_;rintro e w1 ⟨rfl,hu⟩;have HU1:=Lib.hid (((Upd.refl [] w).drew).trans hu);clear hu HK1;go_wp2_with fail
  have HF:Hid (∀ n:Still w1,Calls Tryz.prog 204 #[.pointer (some ⟨b,0,none⟩),.int .i64 x,.slice none 0 0] n.x fun e w2=>e=.returned (.int .i64 0)∧∃ m:Still w1,w2=m.x):=fun n =>
    (fresh_none b x n.x).mono fun _ _ ⟨a,u⟩=>⟨a,⟨_,n.u.trans u⟩,rfl⟩
  have hroom:K.room 0=true:=by
    have h1:=HB.out;have h2:=HK.out.ok.wf.ok.us;have h3:=HK.out.ok.wf.ok.l2;have h4:=HK.out.ok.wf.ok.lp
    simp [KV.room]; omega
  have HR:Hid (∀ n:Still w1,Calls Tryz.prog 203 #[.pointer (some ⟨b,0,none⟩),.int .i64 0] n.x fun e w2=>e=.returned (.bool true)∧∃ m:Still w1,w2=m.x):=fun n =>
    (room_spec b 0 K T q n.x ((HK.out.upd HU1.out (by simp)).upd n.u (by simp)).mem (by omega) (by omega)).mono fun _ _ ⟨a,u⟩=>⟨by rw [a,hroom],⟨_,n.u.trans u⟩,rfl⟩
  clear hroom;refine wp_region_still (by kernel_rfl) (by kernel_rfl) ?_
  repeat (quiet_step ((first | (go_at_call 204; exact HF.out _) | (go_at_call 203; exact HR.out _))))
  refine wpQuiet_nil ?_;rintro _ ⟨n2,rfl⟩;have HU2:=Lib.hid (HU1.out.trans n2.u);clear HF HR;go_wp2_with fail
  go_loopg [47] 0 (fun gg s47 wr=>gg=0∧s47=.int .i64 0∧wr=n2.x)
  case atStart=>exact ⟨rfl,rfl,rfl⟩
  case round =>
    obtain ⟨rfl,rfl,rfl⟩:=hrel;go_wp2_with fail
    go_loopg [62] 0 (fun gg s62 wr=>gg=0∧s62=.int .i64 0∧wr=n2.x)
    case atStart=>exact ⟨rfl,rfl,rfl⟩
    case round =>
      obtain ⟨rfl,rfl,rfl⟩:=hrel;go_wp2_with fail
      go_loopg [119] 0 (fun gg s119 wr=>gg=0∧s119=.int .i64 0∧wr=n2.x)
      case atStart=>exact ⟨rfl,rfl,rfl⟩
      case round =>
        obtain ⟨rfl,rfl,rfl⟩:=hrel;have hm:=(HK.out.upd HU2.out (by simp)).mem;have hos:=hm.os;have hls:=hm.ls;rw [HQ.out.1] at hos;rw [HQ.out.2] at hls
        have b5:n2.x.cell? ⟨b,5,none⟩=some (.slice (some ⟨go,0,none⟩) K.order.length co):=by rw [← HQ.out.1]; exact cell_at hm.blk rfl
        have b6:n2.x.cell? ⟨b,6,none⟩=some (.slice (some ⟨gl,0,none⟩) K.level.length cl):=by rw [← HQ.out.2]; exact cell_at hm.blk rfl
        have o0:n2.x.cell? ⟨go,l,none⟩=some (.int .i64 (K.order.getD l 0:Nat)):=rowN_cell hos (by omega);have o1:n2.x.cell? ⟨go,l + 1,none⟩=some (.int .i64 (K.order.getD (l + 1) 0:Nat)):=rowN_cell hos (by omega);have l0:n2.x.cell? ⟨gl,x,none⟩=some (.int .i64 (K.lev x:Nat)):=rowN_cell hls (by omega);have l1:n2.x.cell? ⟨gl,y,none⟩=some (.int .i64 (K.lev y:Nat)):=rowN_cell hls (by omega);have f0:=row_frozen hos l;have f1:=row_frozen hos (l + 1);have g0:=row_frozen hls x;have g1:=row_frozen hls y
        have hxl:(x:Int) < (K.level.length:Int):=by omega
        have hyl:(y:Int) < (K.level.length:Int):=by omega
        have hgo:go≠gl:=by
          rintro rfl;have e1:=hm.oo go (by rw [HQ.out.1]; rfl);have e2:=hm.ol go (by rw [HQ.out.2]; rfl);omega
        have hbo:b≠go:=by
          rintro rfl;have e1:=hm.oo b (by rw [HQ.out.1]; rfl);have e2:=hm.ob;omega
        have hbl:b≠gl:=by
          rintro rfl;have e1:=hm.ol b (by rw [HQ.out.2]; rfl);have e2:=hm.ob;omega
        have hxy:x≠y:=fun e=>by
          have h1:=(hpm.oo l (by omega)).2;have h2:=(hpm.oo (l + 1) (by omega)).2
          rw [hxe] at h1; rw [hye] at h2; rw [e] at h1; omega
        have HM:=Lib.hid hm;clear hm hos hls;go_wp2_with fail
        go_region
        go_wp2_with fail
        go_region
        go_wp2_with fail;go_ret;refine ⟨rfl,?_⟩;have:=turn_end (l:=l) HM.out HQ.out.1 HQ.out.2 (by omega) (by omega) (by rw [hxe]; omega) (by rw [hye]; omega);rw [hxe,hye] at this;exact ⟨this.1,HU2.out.trans0 this.2⟩
def KV.exchK (K:KV) (l:Nat):KV:={ K.swapK l with trail:=K.trail ++ [l] }
theorem KV.Ok.exch_bare {K:KV} (h:K.Ok) (hb:K.A.used=2) {l:Nat} (hl:l + 2≤K.vars):(K.exchK l).Ok:=by
  have hs:=h.swap_bare hb hl;refine ⟨⟨hs.wf.ok,hs.wf.len,hs.wf.ul,hs.wf.tu,hs.wf.ht,hs.wf.hm,hs.wf.eq,hs.wf.pt,hs.wf.cl,hs.wf.vr,hs.wf.vs⟩,hs.pos,hs.ord.same rfl rfl rfl rfl,fun x hx=>?_⟩
  rcases List.mem_append.1 hx with hx | hx
  · exact h.tl x hx
  · simp at hx; subst hx; exact hl
structure ExchE (b:Nat) (K:KV) (l:Int) (q:KPtr) (w:World) (e:Ending) (w':World):Prop where
  ex:∃ (code:Int) (K':KV) (T':List DM) (q':KPtr),e=.returned (.int .i64 code)∧((code=1∧(l < 0∨(K.vars:Int) - 2 < l)∧K'=K)∨(code=0∧0≤l∧l≤(K.vars:Int) - 2∧K'=K.exchK l.toNat))∧KerIn w' b K' T' q'∧Upd (q.all b) w w'∧Sub (q.all b) w (q'.all b)
set_option maxRecDepth 100000 in
set_option maxHeartbeats 1600000 in
theorem exchange_bare (b:Nat) (l:Int) (K:KV) (T:List DM) (q:KPtr) (w:World) (h:KerIn w b K T q) (hb:K.A.used=2) (htr:K.trail.length≤1000000) :
    Calls Tryz.prog 49 #[.pointer (some ⟨b,0,none⟩),.int .i64 l] w fun e w'=>ExchE b K l q w e w':=by
  obtain ⟨ti,hi0,hz0,hz1',hz2⟩:=info_parts Tryz.infoIntE;have HI:=Lib.hid (And.intro hi0 (And.intro hz0 (And.intro hz1' hz2)));have hvs:=h.ok.wf.vs;have c4:w.cell? ⟨b,4,none⟩=some (.int .i64 K.vars):=cell_at h.mem.blk rfl;have HK:=Lib.hid h;have HB:=Lib.hid hb;clear h hb hi0 hz0 hz1' hz2
  by_cases h0:l < 0
  · have hd0:decide (l < 0)=true:=by simpa using h0
    go_enter Tryz.func49,Tryz.ntmps49
    go_wp2_with fail;go_ret;exact ⟨1,K,T,q,rfl,.inl ⟨rfl,.inl h0,rfl⟩,HK.out,Upd.refl _ _,Sub.refl _ _⟩
  · have hd0:decide (l < 0)=false:=by simpa using h0
    have hsub:IntKind.i64.wrap ((K.vars:Int) - 2)=(K.vars:Int) - 2:=IntWalk.i64_in _ (by omega)
    by_cases h1:(K.vars:Int) - 2 < l
    · have hd1:decide ((K.vars:Int) - 2 < l)=true:=by simpa using h1
      go_enter Tryz.func49,Tryz.ntmps49
      go_wp2_with fail;go_ret;exact ⟨1,K,T,q,rfl,.inl ⟨rfl,.inr h1,rfl⟩,HK.out,Upd.refl _ _,Sub.refl _ _⟩
    · have hd1:decide ((K.vars:Int) - 2 < l)=false:=by simpa using h1
      obtain ⟨n,rfl⟩ : ∃ n:Nat,l=(n:Int):=⟨l.toNat,by omega⟩;have HT:=Lib.hid (turn_bare b n K T q w HK.out HB.out (by omega))
      go_enter Tryz.func49,Tryz.ntmps49
      go_wp2_with fail;refine HT.out.mono ?_;rintro e w1 ⟨rfl,hm,hu⟩;have hrow:=hm.ts;obtain ⟨fa,fc,hfv,_⟩:=row_nil_len hrow
      have hb7:w1.cell? ⟨b,7,none⟩=some (.slice fa K.trail.length fc):=by rw [show Value.slice fa K.trail.length fc=q.tv from hfv.symm]; exact cell_at hm.blk rfl
      rw [hfv] at hrow;have HROW:Hid (w1.ownsRow 0 3 1 (.slice fa K.trail.length fc) K.trail.length (flatN K.trail)):=hrow;have HFV:=Lib.hid hfv;have HM:=Lib.hid (And.intro hm hu);have hbl:=heap_lt hm.blk
      have HC2:Hid (∀ u,u∈[Value.int .i64 n]→u.oneCell'=true):=by intro u hu; simp at hu; subst hu; rfl
      clear hm hu hrow hfv HT c4
      go_wp2_with (at_builtin; go_must (refine wpList_append_lies _ rfl (.tmp 29) (.tmp 31) 22 rfl 0 3 ti _ 1 8 Tryz.underlying22 HI.out.1 HI.out.2.1 HI.out.2.2.1 HI.out.2.2.2 (by rfl) (by decide) _ K.trail.length (flatN K.trail) rfl (HROW.out.alloc _) ⟨w1.heap.size,0,none⟩ 1 1 [.int .i64 n] rfl rfl ?c1 HC2.out (by omega) (by unfold maxLen; omega) (by omega) (by omega) _ rfl ?_))
      case c1=>exact World.news_of_block (heap_alloc_new w1 (.cells #[.int .i64 n] 3 (0,0)))
      intro g5 cap w5 hown hgr hat hlt5
      have hat':(Value.slice fa K.trail.length fc).ownBlock=some g5∨g5=w1.heap.size + 1:=hat
      have hbk5:w5.heap[b]?=w1.heap[b]?:=by
        have hne:some b≠(Value.slice fa K.trail.length fc).ownBlock:=by
          intro e
          have e1:=HM.out.1.ob;have e2:=HM.out.1.ox b (by rw [HFV.out]; exact e.symm);omega
        rw [hgr.block b (by rw [World.size_alloc]; omega) hne,Below.heap_alloc _ _ _ hbl]
      rw [HM.out.1.blk] at hbk5;have fz:w5.frozen? ⟨b,7,none⟩=false:=frozen_at 7 hbk5;have c57:w5.cell? ⟨b,7,none⟩=some q.tv:=cell_at hbk5 rfl
      have HE:Hid (∃ q',KerMem (w5.setCell ⟨b,7,none⟩ (.slice (some ⟨g5,0,none⟩) (K.trail.length + 1) cap)) b (K.exchK n) T q'∧Upd (q.all b) w (w5.setCell ⟨b,7,none⟩ (.slice (some ⟨g5,0,none⟩) (K.trail.length + 1) cap))∧Sub (q.all b) w (q'.all b)):=by
        have m:=HM.out.1.growTrail (g5:=g5) (cap:=cap) (l:=n) (by rw [HFV.out]; exact hgr) (by rw [HFV.out]; exact hat') hown;refine ⟨_,m,?_,fun k hk=>?_⟩
        · have hbm:b∈q.all b:=KPtr.mem.2 (.inl rfl)
          have u5:Upd (q.all b) w w5:=(HM.out.2.alloc (.cells #[.int .i64 n] 3 (0,0))).grown hgr fun k hk=>.inl (KPtr.mem.2 (.inr (.inr (.inr (.inr (.inr (.inr (.inr (by rw [HFV.out]; exact hk)))))))))
          exact u5.setCell (p:=⟨b,7,none⟩) (.inl hbm) _
        · simp only [KPtr.mem] at hk ⊢
          rcases hk with hk | hk | hk | hk | hk | hk | hk | hk
          · exact .inl (.inl hk)
          · exact .inl (.inr (.inl hk))
          · exact .inl (.inr (.inr (.inl hk)))
          · exact .inl (.inr (.inr (.inr (.inl hk))))
          · exact .inl (.inr (.inr (.inr (.inr (.inl hk)))))
          · exact .inl (.inr (.inr (.inr (.inr (.inr (.inl hk))))))
          · exact .inl (.inr (.inr (.inr (.inr (.inr (.inr (.inl hk)))))))
          · simp [Value.ownBlock] at hk; subst hk
            rcases hat' with e | e
            · exact .inl (.inr (.inr (.inr (.inr (.inr (.inr (.inr (by rw [HFV.out]; exact e))))))))
            · have:=HM.out.2.size; right; omega
      clear hown hgr hat hat' hlt5 hbk5 hb7;go_wp2_with fail;go_ret;obtain ⟨q',m,u,s⟩:=HE.out;exact ⟨0,K.exchK n,T,q',rfl,.inr ⟨rfl,by omega,by omega,by simp⟩,⟨m,HK.out.ti.same rfl rfl,HK.out.ok.exch_bare HB.out (by omega)⟩,u,s⟩
end Go.Proofs.YtpfafhmkbcahhaaGreat
namespace Go.Proofs.YtpfafhmkbcahhaaGreat
open Go.RowKit Go.Maps Go.ChangeMaps Go.WideShapes
theorem split_at {α : Type} {C:List α} {i:Nat} {c:α} (h:C[i]?=some c):C.drop i=c :: C.drop (i + 1)∧C.take (i + 1)=C.take i ++ [c]:=by
  obtain ⟨hl,e⟩:=List.getElem?_eq_some_iff.1 h;exact ⟨by rw [List.drop_eq_getElem_cons hl,e],by rw [List.take_add_one,h]; rfl⟩
theorem FrN.exists (K:KV) (x:Nat):∀ Q:List (Nat × Nat),∃ N,FrN K x Q N:=by
  intro Q
  have key:∀ n,∃ N,FrN K x (Q.take n) N:=by
    intro n
    induction n with
    | zero=>exact ⟨[],by simpa using FrN.nil K x⟩
    | succ n ih =>
      obtain ⟨N,hN⟩:=ih;rw [List.take_add_one]
      cases hq:Q[n]? with
      | none=>exact ⟨N,by simpa using hN⟩
      | some q =>
        show ∃ N,FrN K x (Q.take n ++ [q]) N
        by_cases h1:q.1=q.2
        · exact ⟨N,hN.skip (.inl h1)⟩
        · by_cases h2:K.has3 x q.1 q.2
          · exact ⟨N,hN.skip (.inr (.inl h2))⟩
          · by_cases h3:q∈N
            · exact ⟨N,hN.skip (.inr (.inr h3))⟩
            · exact ⟨_,hN.add h1 h2 h3⟩
  obtain ⟨N,hN⟩:=key Q.length;exact ⟨N,by simpa using hN⟩
theorem FrN.len_eq {K:KV} {x:Nat} {Q N N':List (Nat × Nat)} (h:FrN K x Q N) (h':FrN K x Q N'):N.length=N'.length :=
  Nat.le_antisymm (List.Nodup.length_le_of_subset h.nd fun q hq=>(h'.iff q).2 ((h.iff q).1 hq)) (List.Nodup.length_le_of_subset h'.nd fun q hq=>(h.iff q).2 ((h'.iff q).1 hq))
structure Exch (K:KV) (l:Nat) (K':KV):Prop where
  vr:K'.vars=K.vars
  pl:K'.A.places=K.A.places
  od:K'.order=(K.order.set l (K.order.getD (l + 1) 0)).set (l + 1) (K.order.getD l 0)
  hd:∀ r,K'.hold r=K.hold r
  tr:K'.trail=K.trail
  den:∀ r,K.A.tk r=true→K'.A.tk r=true→∀ z,K'.den r z=K.den r z
structure KTurnQ (b l:Nat) (K:KV) (q:KPtr) (w:World) (e:Ending) (w':World):Prop where
  ex:∃ (C:List CrV) (N:List (Nat × Nat)),CrAll K l (K.order.getD l 0) (K.order.getD (l + 1) 0) C∧FrN K (K.order.getD l 0) (C.flatMap CrV.qs) N ∧
    ((e=.returned (.bool false)∧K.A.places < K.A.used + N.length∧Upd [] w w') ∨
     (e=.returned (.bool true)∧K.A.used + N.length≤K.A.places∧∃ (K':KV) (T':List DM) (q':KPtr),Exch K l K'∧(C=[]→K'=K.swapK l)∧KerIn w' b K' T' q'∧Upd (q.all b) w w'∧Sub (q.all b) w (q'.all b)))
structure CrossQ (l x y:Nat) (K:KV) (w:World) (e:Ending) (w':World):Prop where
  ex:∃ (C:List CrV) (la:Option Addr) (lc:Nat),e=.returned (.slice la C.length lc)∧CrAll K l x y C∧(∀ c,c∈C→c.R32)∧w'.ownsRow w.heap.size 276 8 (.slice la C.length lc) C.length (flatC x C)∧Upd [] w w'
theorem CrAll.len {K:KV} {l x y:Nat} {C:List CrV} (h:CrAll K l x y C) (hk:K.Wf []):C.length≤1048576:=by
  have h1:(C.map CrV.r).length≤(List.range 1048576).length:=List.Nodup.length_le_of_subset h.nd fun r hr=>by
    have ht:=Nb.cross_tk ((h.iff r).1 hr);have h2:=ArenaV.tk_lt ht;have h3:=hk.ok.lp;have h4:=hk.ok.pm;exact List.mem_range.2 (by omega)
  simpa using h1
end Go.Proofs.YtpfafhmkbcahhaaGreat
namespace Go.Proofs.YtpfafhmkbcahhaaGreat
open Go.RowKit Go.Maps Go.ChangeMaps Go.WideShapes
theorem CrOk.at_ {K:KV} {l x y:Nat} {c:CrV} (h:CrOk K l x y c):∃ p,K.A.list[c.r]?=some p∧p.taken=true∧p.var=(x:Int)∧p.lo=c.lo∧p.hi=c.hi∧Four K l x y c.r p c.a00 c.a01 c.a10 c.a11:=by
  obtain ⟨p,F,hv,e1,e2⟩:=h.ex;exact ⟨p,F.at_,F.tk,hv,e1,e2,F⟩
theorem nd_at {C:List CrV} {i:Nat} {c:CrV} (nd:(C.map CrV.r).Nodup) (h:C[i]?=some c):c.r∉(C.take i).map CrV.r∧c.r∉(C.drop (i + 1)).map CrV.r:=by
  rw [← List.take_append_drop i C,List.map_append,(split_at h).1,List.map_cons,List.nodup_append,List.nodup_cons] at nd;exact ⟨fun hm=>nd.2.2 _ hm _ (by simp) rfl,nd.2.1.1⟩
structure RemR (b:Nat) (K:KV) (q:KPtr) (C:List CrV) (w:World) (i:Nat) (wr:World):Prop where
  ex:∃ T,KerMem wr b K T q∧TInv T K ((C.take i).map CrV.r)
  up:Upd (q.all b) w wr
theorem RemR.step {b l x y i:Nat} {K:KV} {q:KPtr} {C:List CrV} {c:CrV} {w wr:World} (h:RemR b K q C w i wr) (hc:C[i]?=some c) (nb:Nb K l x y) (CA:CrAll K l x y C) :
    ∃ T D,KerMem wr b K T q∧T[x]?=some D∧Maps.has D (nk x c.lo c.hi)=true∧c.lo≤4294967295∧c.hi≤4294967295 ∧
      ∀ w',TabAt w' q.t (T.set x (D.del (nk x c.lo c.hi))) q.FT→Upd q.FT wr w'→RemR b K q C w (i + 1) w':=by
  obtain ⟨T,hm,ht⟩:=h.ex;have hmem:=List.mem_of_getElem? hc;obtain ⟨p,hp,hpt,hv,e1,e2,_⟩:=(CA.ok c hmem).at_;have h2:2≤c.r:=(CA.ok c hmem).cr.1;have hw:=nb.ok.wf;have h32:=hw.ok.u32 p (List.mem_of_getElem? hp);obtain ⟨hx,_⟩:=nb.facts
  have hlt:x < T.length:=by rw [ht.len]; exact hx
  have hD:T[x]?=some T[x]:=List.getElem?_eq_getElem hlt;generalize T[x]=D at hD;have hn:=(nd_at CA.nd hc).1
  have hk:nkp p=nk x c.lo c.hi:=by unfold nkp; rw [hv,e1,e2]
  have hxn:p.var.toNat=x:=by omega
  have hhas:=(ht.at_ c.r p D h2 hp hpt hn (by rw [hxn]; exact hD)).1;rw [hk] at hhas;have hless:=ht.less hw h2 hn hp hpt hv hD;rw [hk] at hless;refine ⟨T,D,hm,hD,hhas,by omega,by omega,fun w' ha hu=>⟨⟨_,hm.table ha hu,hless.exc fun r=>?_⟩,h.up.trans (hu.mono fun k hk=>KPtr.mem.2 (.inr (.inr (.inl hk))))⟩⟩;rw [(split_at hc).2]
  simp [or_comm]
structure TurX (b l x y:Nat) (K0:KV) (q0:KPtr) (N:List (Nat × Nat)) (w:World) (R:List Nat) (L:List (Nat × (Nat × Nat))) (K:KV) (T:List DM) (q:KPtr) (P:List Nat) (wr:World):Prop where
  st:∃ D M,St K0 l x y N R K T P D M∧∀ g,g∈L→Low K0 l x K g.1∧∀ z,D g.1 z=if z x then K0.den g.2.2 z else K0.den g.2.1 z
  mem:KerMem wr b K T q
  up:Upd (q0.all b) w wr
  sub:Sub (q0.all b) w (q.all b)
structure TurR (b l x y:Nat) (K0:KV) (q0:KPtr) (C:List CrV) (N:List (Nat × Nat)) (w:World) (i:Nat) (K:KV) (T:List DM) (q:KPtr) (P:List Nat) (wr:World):Prop where
  tx:TurX b l x y K0 q0 N w ((C.drop i).map CrV.r) [] K T q P wr
  pe:P.Perm ((C.take i).flatMap fun c=>[c.lo,c.hi])
  nil:C=[]→K=K0
theorem flat2_len:∀ C:List CrV,(C.flatMap fun c=>[c.lo,c.hi]).length=C.length * 2
  | []=>rfl
  | c :: C=>by rw [List.flatMap_cons,List.length_append,flat2_len C,List.length_cons]; simp; omega
theorem RemR.done {b l x y:Nat} {K:KV} {q:KPtr} {C:List CrV} {N:List (Nat × Nat)} {w wr:World} (h:RemR b K q C w C.length wr) (nb:Nb K l x y) (CA:CrAll K l x y C):∃ T,TurR b l x y K q C N w 0 K T q [] wr:=by
  obtain ⟨T,hm,ht⟩:=h.ex;rw [List.take_length] at ht;exact ⟨T,⟨⟨⟨K.den,[],⟨Mid.start nb (fun r=>CA.iff r) CA.nd,nb.ok.wf,by rw [List.drop_zero]; exact ht,nb.ok.pos,CntN.start K x N⟩,by simp⟩,hm,h.up,Sub.refl _ _⟩,by simp,fun _=>rfl⟩⟩
theorem GetR.got {K0 K K':KV} {l x y a d r:Nat} {R P:List Nat} {T:List DM} {N:List (Nat × Nat)} {D:Nat→(Nat→Bool)→Bool} {M:List (Nat × Nat)} (h:St K0 l x y N R K T P D M) (nb:Nb K0 l x y) (ha:Deep K0 l a) (hd:Deep K0 l d) (G:GetR K R x a d r K'):K'.Wf P∧K'.A.tk r=true:=by
  obtain ⟨D',hm,hlow,_⟩:=h.mid.get nb h.wf ha hd G;refine ⟨?_,hlow.1⟩;obtain ⟨hx,_⟩:=nb.facts
  have hxv:x < K.vars:=by rw [h.mid.vr]; exact hx
  rcases G with ⟨_,_,rfl⟩ | ⟨_,_,rfl⟩ | ⟨_,Tk,_⟩
  · exact h.wf
  · exact h.wf
  · exact Tk.wf h.wf (h.mid.tk ha.1) (h.mid.tk hd.1) ⟨by omega,by omega⟩
theorem St.getCall {K0 K:KV} {b l x y:Nat} {p:Nat × Nat} {N Q M:List (Nat × Nat)} {R P:List Nat} {T:List DM} {D:Nat→(Nat→Bool)→Bool} {q:KPtr} {w:World} (h:St K0 l x y N R K T P D M) (nb:Nb K0 l x y) (F:FrN K0 x Q N) (hq:p∈Q)
    (ha:Deep K0 l p.1) (hb:Deep K0 l p.2) (hroom:K0.A.used + N.length≤K0.A.places) (hm:KerMem w b K T q) (hP:P.length≤1000000000) :
    Calls Tryz.prog 206 #[.pointer (some ⟨b,0,none⟩),.int .i64 x,.int .u32 p.1,.int .u32 p.2] w fun e w'=>GetQ b x p.1 p.2 K R q w e w':=by
  obtain ⟨hx,_⟩:=nb.facts
  have h32:∀ {a:Nat},Deep K0 l a→a≤4294967295:=fun {a} ha=>by
    have h1:=ArenaV.tk_lt ha.1;have h3:=nb.ok.wf.ok.lp;have h4:=nb.ok.wf.ok.pm;omega
  refine get_spec b x p.1 p.2 K P R T q w hm h.wf h.ti (fun s hs=>h.mid.tk (Nb.cross_tk (h.mid.rc s hs))) hP (by rw [h.mid.vr]; exact hx) (h.mid.tk ha.1) (h.mid.tk hb.1) (h32 ha) (h32 hb) fun hne hno=>?_
  exact (h.cnt.room F h.mid nb ha hb hq hne (fun ⟨s,c,h2,hc,hct,hv,e1,e2⟩=>hno s c (h.mid.has3_not nb hc (by rw [e1]; exact ha) (by rw [e2]; exact hb)) h2 hc hct ⟨hv,e1,e2⟩) hroom).2.2
theorem CrAll.deep {K:KV} {l x y:Nat} {C:List CrV} (h:CrAll K l x y C) {q:Nat × Nat} (hq:q∈C.flatMap CrV.qs):Deep K l q.1∧Deep K l q.2:=by
  obtain ⟨c,hc,hm⟩:=List.mem_flatMap.1 hq;obtain ⟨p,_,_,_,_,_,F⟩:=(h.ok c hc).at_
  simp [CrV.qs] at hm
  rcases hm with rfl | rfl
  · exact ⟨F.d00,F.d10⟩
  · exact ⟨F.d01,F.d11⟩
theorem use_call {b r:Nat} {K:KV} {T:List DM} {q:KPtr} {P:List Nat} {w:World} (hm:KerMem w b K T q) (hw:K.Wf P) (ht:K.A.tk r=true) (hP:P.length≤1000000000) :
    Calls Tryz.prog 207 #[.pointer (some ⟨b,0,none⟩),.int .u32 r] w fun e w'=>e=.returned (.tuple #[])∧KerMem w' b (K.useA r) T q∧Upd (q.all b) w w':=by
  have h1:=ArenaV.tk_lt ht;have h3:=hw.ok.lp;have h4:=hw.ok.pm;exact use_any b r K T q w hm (fun h2=>hw.tu r h2 ht) (fun h2=>by have:=hw.use_le h2 ht; omega) (by omega)
theorem St.noY {K0 K:KV} {l x y lo hi a00 a01 a10 a11 c:Nat} {p:PlaceV} {N M:List (Nat × Nat)} {R P:List Nat} {T:List DM} {DY:DM} {D:Nat→(Nat→Bool)→Bool} (h:St K0 l x y N (c :: R) K T P D M) (nb:Nb K0 l x y)
    (F4:Four K0 l x y c p a00 a01 a10 a11) (dlo:∀ z,D lo z=if z x then K0.den a10 z else K0.den a00 z) (dhi:∀ z,D hi z=if z x then K0.den a11 z else K0.den a01 z)
    (h32:lo≤4294967295∧hi≤4294967295) (hD:T[y]?=some DY):Maps.has DY (nk y lo hi)=false:=by
  obtain ⟨_,hy,_⟩:=nb.facts
  have hyv:y < K.vars:=by rw [h.mid.vr]; exact hy
  have hvs:=h.wf.vs
  cases hh:Maps.has DY (nk y lo hi) with
  | false=>rfl
  | true =>
    exfalso
    obtain ⟨s,q,h2,hq,hqt,hqv,hk,hs⟩:=h.ti.dom y DY _ hD hh;have h4:=h.wf.ok.u32 q (List.mem_of_getElem? hq);obtain ⟨e1,e2,e3⟩:=nk_inj (wfI (by omega) (by omega)) (wfR h32.1) (wfR h32.2) (wfI (by rw [hqv]; omega) (by rw [hqv]; omega)) (wfR h4.1) (wfR h4.2.1) hk;exact h.mid.turn_new nb F4 dlo dhi h2 hq hqt hs ⟨hqv,e2.symm,e3.symm⟩
theorem TurX.getCall {b l x y:Nat} {K0 K:KV} {q0 q:KPtr} {N Q:List (Nat × Nat)} {w wr w1:World} {R P:List Nat} {L:List (Nat × (Nat × Nat))} {T:List DM} {p:Nat × Nat} (h:TurX b l x y K0 q0 N w R L K T q P wr)
    (nb:Nb K0 l x y) (F:FrN K0 x Q N) (hp:p∈Q) (ha:Deep K0 l p.1) (hd:Deep K0 l p.2) (hroom:K0.A.used + N.length≤K0.A.places) (u1:Upd [] wr w1) (hP:P.length≤1000000000) :
    Calls Tryz.prog 206 #[.pointer (some ⟨b,0,none⟩),.int .i64 x,.int .u32 p.1,.int .u32 p.2] w1 fun e w'=>GetQ b x p.1 p.2 K R q w1 e w':=by
  obtain ⟨D,M,st,_⟩:=h.st;exact st.getCall nb F hp ha hd hroom (h.mem.upd u1 (by simp)) hP
theorem TurX.useCall {b l x y r:Nat} {K0 K K':KV} {q0 q q':KPtr} {N:List (Nat × Nat)} {w wr w2:World} {R P:List Nat} {L:List (Nat × (Nat × Nat))} {T T':List DM} {p:Nat × Nat} (h:TurX b l x y K0 q0 N w R L K T q P wr)
    (nb:Nb K0 l x y) (ha:Deep K0 l p.1) (hd:Deep K0 l p.2) (G:GetR K R x p.1 p.2 r K') (m:KerMem w2 b K' T' q') (hP:P.length≤1000000000) :
    Calls Tryz.prog 207 #[.pointer (some ⟨b,0,none⟩),.int .u32 r] w2 fun e w'=>e=.returned (.tuple #[])∧KerMem w' b (K'.useA r) T' q'∧Upd (q'.all b) w2 w':=by
  obtain ⟨D,M,st,_⟩:=h.st;obtain ⟨hw,ht⟩:=GetR.got st nb ha hd G;exact use_call m hw ht hP
theorem box8 {w:World} {z:Nat} {v0 v1 v2 v3 v4 v5 v6 v7:Value} {t:TypeId} (h:w.heap[z]?=some (.cells #[v0,v1,v2,v3,v4,v5,v6,v7] t (0,0))) :
    w.cell? ⟨z,0,none⟩=some v0∧w.cell? ⟨z,2,none⟩=some v2∧w.cell? ⟨z,3,none⟩=some v3∧w.cell? ⟨z,4,none⟩=some v4∧w.cell? ⟨z,5,none⟩=some v5∧w.cell? ⟨z,6,none⟩=some v6∧w.cell? ⟨z,7,none⟩=some v7 :=
  ⟨cell_at h rfl,cell_at h rfl,cell_at h rfl,cell_at h rfl,cell_at h rfl,cell_at h rfl,cell_at h rfl⟩
theorem TurX.get {b l x y r:Nat} {K0 K K':KV} {q0 q q':KPtr} {N Q:List (Nat × Nat)} {w wr w1 w2 w3:World} {R P:List Nat} {L:List (Nat × (Nat × Nat))} {T T':List DM} {p:Nat × Nat} (h:TurX b l x y K0 q0 N w R L K T q P wr)
    (nb:Nb K0 l x y) (F:FrN K0 x Q N) (hp:p∈Q) (ha:Deep K0 l p.1) (hd:Deep K0 l p.2) (hroom:K0.A.used + N.length≤K0.A.places) (u1:Upd [] wr w1) (G:GetR K R x p.1 p.2 r K') (ti:TInv T' K' R) (u2:Upd (q.all b) w1 w2) (s2:Sub (q.all b) w1 (q'.all b))
    (m3:KerMem w3 b (K'.useA r) T' q') (u3:Upd (q'.all b) w2 w3):TurX b l x y K0 q0 N w R ((r,p) :: L) (K'.useA r) T' q' (r :: P) w3:=by
  obtain ⟨D,M,st,hL⟩:=h.st;obtain ⟨D',M',st',hlow,hden,hsame,hkeep⟩:=st.get nb F hp ha hd hroom G ti
  have hs:Sub (q0.all b) w (q'.all b):=fun k hk=>by
    rcases s2 k hk with h1 | h1
    · exact h.sub k h1
    · have:=h.up.size; have:=u1.size; right; omega
  refine ⟨⟨D',M',st',fun g hg=>?_⟩,m3,((h.up.trans (u1.mono (by simp))).then u2 fun k hk=>?_).then u3 fun k hk=>hs k hk,hs⟩
  · rcases List.mem_cons.1 hg with rfl | hg
    · exact ⟨hlow,hden⟩
    · obtain ⟨g1,g2⟩:=hL g hg
      exact ⟨g1.mono fun c hc hct=>hkeep _ c hc hct,fun z=>by rw [hsame _ g1.1]; exact g2 z⟩
  · exact h.sub k hk
theorem TurX.setCall {b l x y lo hi:Nat} {K0 K:KV} {q0 q:KPtr} {N:List (Nat × Nat)} {w wr w1:World} {R P:List Nat} {T:List DM} {c:CrV} (h:TurX b l x y K0 q0 N w (c.r :: R) [(hi,(c.a01,c.a11)),(lo,(c.a00,c.a10))] K T q (hi :: lo :: P) wr)
    (nb:Nb K0 l x y) (hc:CrOk K0 l x y c) (u1:Upd [] wr w1) :
    Calls Tryz.prog 208 #[.pointer (some ⟨q.a,0,none⟩),.int .u32 c.r,.agg #[.int .i64 y,.int .u32 lo,.int .u32 hi]] w1 fun e w'=>e=.returned (.int .i64 0)∧∃ q1,KerMem w' b (K.turnN c.r y lo hi) T q1∧q1.all b=q.all b∧q1.t=q.t∧q1.a=q.a∧Upd (q.all b) w1 w':=by
  obtain ⟨D,M,st,hL⟩:=h.st;obtain ⟨p,hp0,hpt,_,_,_,_⟩:=hc.at_;have hp:=st.mid.old c.r p hp0 hpt (.inr (by simp));have t1:=(hL (lo,(c.a00,c.a10)) (by simp)).1.1;have t2:=(hL (hi,(c.a01,c.a11)) (by simp)).1.1;have hm:=h.mem.upd u1 (by simp)
  have lt:∀ {a:Nat},K.A.tk a=true→a≤4294967295:=fun {a} ha=>by
    have h1:=ArenaV.tk_lt ha;have h3:=st.wf.ok.lp;have h4:=st.wf.ok.pm;omega
  obtain ⟨_,hy,_⟩:=nb.facts;have hvs:=nb.ok.wf.vs;refine (aset_ok q.a q.FA c.r lo hi y K.A p w1 hm.ar (lt (ArenaV.tk_iff.2 ⟨p,hp,hpt⟩)) hc.cr.1 hp hpt ⟨lt t1,lt t2⟩ (by omega) t1 t2).mono ?_;rintro e w' ⟨rfl,ha,hu⟩;exact ⟨rfl,_,hm.arena ha hu (Sub.refl _ _),rfl,rfl,rfl,hu.mono fun k hk=>KPtr.mem.2 (.inr (.inl hk))⟩
theorem TurX.addCall {b l x y lo hi:Nat} {K0 K:KV} {q0 q q1:KPtr} {N:List (Nat × Nat)} {w wr w1:World} {R P:List Nat} {T:List DM} {c:CrV} (h:TurX b l x y K0 q0 N w (c.r :: R) [(hi,(c.a01,c.a11)),(lo,(c.a00,c.a10))] K T q (hi :: lo :: P) wr)
    (nb:Nb K0 l x y) (hc:CrOk K0 l x y c) (m1:KerMem w1 b (K.turnN c.r y lo hi) T q1) :
    ∃ DY,T[y]?=some DY∧Calls Tryz.prog 209 #[.pointer (some ⟨q1.t,0,none⟩),.agg #[.int .i64 y,.int .u32 lo,.int .u32 hi],.int .u32 c.r] w1 fun e w' =>
      e=.returned (.int .i64 0)∧KerMem w' b (K.turnN c.r y lo hi) (T.set y (DY.put (nk y lo hi) (.lit (.int .u32 c.r)))) q1∧Upd (q1.all b) w1 w':=by
  obtain ⟨D,M,st,hL⟩:=h.st;obtain ⟨p,hp0,hpt,_,_,_,F4⟩:=hc.at_;obtain ⟨g1,g1d⟩:=hL (lo,(c.a00,c.a10)) (by simp);obtain ⟨g2,g2d⟩:=hL (hi,(c.a01,c.a11)) (by simp)
  have lt:∀ {a:Nat},K.A.tk a=true→a≤4294967295:=fun {a} ha=>by
    have h1:=ArenaV.tk_lt ha;have h3:=st.wf.ok.lp;have h4:=st.wf.ok.pm;omega
  obtain ⟨_,hy,_⟩:=nb.facts
  have hlt:y < T.length:=by rw [st.ti.len,st.mid.vr]; exact hy
  have hD:T[y]?=some T[y]:=List.getElem?_eq_getElem hlt;generalize T[y]=DY at hD;have hno:=st.noY nb F4 g1d g2d ⟨lt g1.1,lt g2.1⟩ hD
  have hsz:Maps.size DY < maxLen:=by
    obtain ⟨_,_,_,_,_,_,_,_,ho⟩:=m1.tab.cells hD;have:=st.ti.size st.wf hD (ho.canon nodeKeyed) (ho.tidy nodeKeyed)
    unfold maxLen; omega
  have hcr:c.r≤4294967295:=lt (st.mid.tk (Nb.cross_tk hc.cr));refine ⟨DY,hD,(add_spec q1.t q1.FT y lo hi c.r T DY w1 m1.tab hD (lt g1.1) (lt g2.1) hcr hno hsz).mono ?_⟩;rintro e w' ⟨rfl,ha,hu⟩;exact ⟨rfl,m1.table ha hu,hu.mono fun k hk=>KPtr.mem.2 (.inr (.inr (.inl hk)))⟩
theorem TurR.step {b l x y i lo hi:Nat} {K0 K1 K:KV} {q0 q1 q q2:KPtr} {C:List CrV} {N:List (Nat × Nat)} {w wr1 wr w1 w2 w3 w4:World} {P:List Nat} {T1 T:List DM} {DY:DM} {c:CrV} (h:TurR b l x y K0 q0 C N w i K1 T1 q1 P wr1) (hc:C[i]?=some c)
    (hx:TurX b l x y K0 q0 N w (c.r :: (C.drop (i + 1)).map CrV.r) [(hi,(c.a01,c.a11)),(lo,(c.a00,c.a10))] K T q (hi :: lo :: P) wr)
    (nb:Nb K0 l x y) (CA:CrAll K0 l x y C) (F:FrN K0 x (C.flatMap CrV.qs) N) (hD:T[y]?=some DY) (u1:Upd [] wr w1) (u2:Upd (q.all b) w1 w2) (hq:q2.all b=q.all b) (u3:Upd [] w2 w3) (m4:KerMem w4 b (K.turnN c.r y lo hi) (T.set y (DY.put (nk y lo hi) (.lit (.int .u32 c.r)))) q2)
    (u4:Upd (q2.all b) w3 w4):TurR b l x y K0 q0 C N w (i + 1) (K.turnN c.r y lo hi) (T.set y (DY.put (nk y lo hi) (.lit (.int .u32 c.r)))) q2 (c.lo :: c.hi :: P) w4:=by
  obtain ⟨D,M,st,hL⟩:=hx.st;have hmem:=List.mem_of_getElem? hc;obtain ⟨p,hp0,hpt,_,e1,e2,F4⟩:=(CA.ok c hmem).at_;obtain ⟨g1,g1d⟩:=hL (lo,(c.a00,c.a10)) (by simp);obtain ⟨g2,g2d⟩:=hL (hi,(c.a01,c.a11)) (by simp)
  have lt:∀ {a:Nat},K.A.tk a=true→a≤4294967295:=fun {a} ha=>by
    have h1:=ArenaV.tk_lt ha;have h3:=st.wf.ok.lp;have h4:=st.wf.ok.pm;omega
  have st':=st.turn nb F (fun q hq=>CA.deep hq) F4 g1 g2 g1d g2d ⟨lt g1.1,lt g2.1⟩ hD;rw [e1,e2] at st'
  have hs:Sub (q0.all b) w (q2.all b):=by rw [hq]; exact hx.sub
  refine ⟨⟨⟨D,M,st',by simp⟩,m4,(((hx.up.trans (u1.mono (by simp))).then u2 fun k hk=>hx.sub k hk).trans (u3.mono (by simp))).then u4 fun k hk=>hs k hk,hs⟩,?_,fun e=>by rw [e] at hc; simp at hc⟩;rw [(split_at hc).2,List.flatMap_append];have:=h.pe;refine (List.Perm.append_left [c.lo,c.hi] this).trans ?_
  simp only [List.flatMap_cons,List.flatMap_nil,List.append_nil]
  exact List.perm_append_comm
structure RlsR (b:Nat) (Ke:KV) (q0:KPtr) (S:List Nat) (w:World) (K:KV) (T:List DM) (q:KPtr) (wr:World):Prop where
  mem:KerMem wr b K T q
  wf:K.Wf S
  ti:TInv T K []
  le:K.Le Ke
  pos:K.Pos
  up:Upd (q0.all b) w wr
  sub:Sub (q0.all b) w (q.all b)
theorem RlsR.step {b r:Nat} {Ke K K':KV} {q0 q q':KPtr} {S:List Nat} {w wr w':World} {T T':List DM} (h:RlsR b Ke q0 (r :: S) w K T q wr) (R:RelR wr b K S q [] w' K' T' q'):RlsR b Ke q0 S w K' T' q' w' :=
  ⟨R.mem,by simpa using R.wf,R.ti,R.le.trans h.le,R.pos h.pos,h.up.then R.up fun k hk=>h.sub k hk,fun k hk=>by
    rcases R.sub k hk with hk | hk
    · exact h.sub k hk
    · have:=h.up.size; right; omega⟩
theorem RlsR.keep0 {b:Nat} {Ke K:KV} {q0 q:KPtr} {S:List Nat} {w wr w':World} {T:List DM} (h:RlsR b Ke q0 S w K T q wr) (u:Upd [] wr w'):RlsR b Ke q0 S w K T q w' :=
  ⟨h.mem.upd u (by simp),h.wf,h.ti,h.le,h.pos,h.up.trans (u.mono (by simp)),h.sub⟩
theorem RlsR.call {b r:Nat} {Ke K:KV} {q0 q:KPtr} {S:List Nat} {w wr:World} {T:List DM} (h:RlsR b Ke q0 (r :: S) w K T q wr) (hS:S.length≤1000000000) :
    Calls Tryz.prog 210 #[.pointer (some ⟨b,0,none⟩),.int .u32 r] wr fun e w'=>e=.returned (.tuple #[])∧∃ K' T' q',RlsR b Ke q0 S w K' T' q' w'∧Upd (q.all b) wr w'∧Sub (q.all b) wr (q'.all b):=by
  have ht:=h.wf.pt r (by simp);have h1:=ArenaV.tk_lt ht;have h3:=h.wf.ok.lp;have h4:=h.wf.ok.pm;refine (release_spec b r K S T q wr h.mem h.wf h.ti hS (by omega)).mono ?_;rintro e w' ⟨he,K',T',q',R⟩;exact ⟨he,K',T',q',h.step R,R.up,R.sub⟩
theorem Exch.of {K Ke K3:KV} {l x y:Nat} {P:List Nat} {D:Nat→(Nat→Bool)→Bool} (nb:Nb K l x y) (m:Mid K l x y [] Ke D) (hwe:Ke.Wf P) (le:K3.Le Ke) (hw:K3.Wf []) (hpos:K3.Pos):(K3.swapK l).Ok∧Exch K l (K3.swapK l):=by
  have ho:K3.order=K.order:=le.od.trans m.od
  have e:K3.swapK l=K3.swapO l x y:=by
    unfold KV.swapK KV.swapO;rw [ho,nb.hx,nb.hy]
  obtain ⟨hord,hden⟩:=m.done nb hwe
  have hext:(K3.swapO l x y).Ext (Ke.swapO l x y):=by
    refine ⟨le.nd,le.pl.symm,le.vr.symm,?_,?_⟩
    · show (Ke.order.set l y).set (l + 1) x=(K3.order.set l y).set (l + 1) x
      rw [le.od]
    · show (Ke.level.set x (l + 1)).set y l=(K3.level.set x (l + 1)).set y l
      rw [le.lv]
  have hw':(K3.swapO l x y).Wf []:=hw.swapO l x y;rw [e];refine ⟨⟨hw',hpos,hext.ord_down hw' hord,fun t ht=>?_⟩,⟨le.vr.trans m.vr,le.pl.trans m.pl,?_,fun r=>?_,le.tr.trans m.tr,fun r t0 t1 z=>?_⟩⟩
  · have ht':t∈K3.trail:=ht
    rw [le.tr,m.tr] at ht'
    show t + 2≤K3.vars
    rw [le.vr,m.vr];exact nb.ok.tl t ht'
  · show (K3.order.set l y).set (l + 1) x=_
    rw [ho,nb.hx,nb.hy]
  · show K3.hold r=_
    rw [← m.hd r]
    unfold KV.hold; rw [le.hd]
  · rw [← hext.den hw' z t1,hden r (m.tk t0) z,m.dold r t0 z]
end Go.Proofs.YtpfafhmkbcahhaaGreat
