import Derived.Test.YtfkopmhpppeheaaGreatPF30
import Derived.Test.YtfkopmhpppeheaaGreatPF29
set_option maxRecDepth 100000
set_option maxHeartbeats 6400000
namespace Go.Proofs.YtfkopmhpppeheaaGreat
open Go.RowKit Go.Maps Go.ChangeMaps Go.WideShapes
structure TookQ (n0 a b m:Nat) (K:KV) (F:List Nat) (M:MV) (p:MPtr) (refs:List Nat) (tabs:List TV) (r:Nat) (t:TV) (w:World) (e:Ending) (w':World):Prop where
 ex:∃ rv tv:Value,e=.returned (.bool true)/\PIn w' n0 a b m rv tv K F M p (refs++[r]) (tabs++[t])/\Fro n0 w w'
structure TkCut (n W:Nat) (t:TV) (w0:World) (s7 s8:Value) (wc:World):Prop where
 ex:∃ (B:Nat) (ga:Option Addr) (gc:Nat),s7=.pointer (some ⟨B,0,none⟩)/\s8=.bool true/\wc.heap[B]?=some (.cells #[.int .i64 n,.slice ga W gc] 122 (0,0))/\TIn wc [] (.slice ga W gc) t/\Upd [] w0 wc
theorem TkCut.of1 {n W gc:Nat} {t:TV} {ga:Option Addr} {w0 w1 x:World} (h:TNew x w1 (.slice ga W gc) t) (u:Upd [] w0 w1):TkCut n W t w0 (.pointer (some ⟨w1.heap.size,0,none⟩)) (.bool true) (w1.alloc (.cells #[.int .i64 n,.slice ga W gc] 122 (0,0))) :=
 ⟨_,ga,gc,rfl,rfl,heap_alloc_new _ _,(h.tin (Z:=[]) (by simp)).keep0 ((Upd.refl _ _).alloc _),u.alloc _⟩
theorem TkCut.of2 {n W gc:Nat} {t:TV} {ga:Option Addr} {w0 w1 x:World} (hb:w1.heap[w0.heap.size]?=some (.cells #[.int .i64 0,.slice none 0 0] 122 (0,0))) (h:TNew x w1 (.slice ga W gc) t) (u:Upd [] w0 w1) :
  TkCut n W t w0 (.pointer (some ⟨w0.heap.size,0,none⟩)) (.bool true) ((w1.setCell ⟨w0.heap.size,0,none⟩ (.int .i64 n)).setCell ⟨w0.heap.size,1,none⟩ (.slice ga W gc)):=by
 have e1:=heap_set_eq (j:=0) hb (.int .i64 n);have e2:=heap_set_eq (j:=1) e1 (.slice ga W gc);refine ⟨_,ga,gc,rfl,rfl,e2,?_,(u.setCell (p:=⟨w0.heap.size,0,none⟩) (.inr (Nat.le_refl _)) _).setCell (p:=⟨w0.heap.size,1,none⟩) (.inr (Nat.le_refl _)) _⟩
 exact (h.tin (Z:=[]) (by simp)).foreign (((Upd.refl [w0.heap.size] w1).setCell (p:=⟨w0.heap.size,0,none⟩) (.inl (by simp)) _).setCell (p:=⟨w0.heap.size,1,none⟩) (.inl (by simp)) _) fun k hk=>by simp at hk;subst hk;exact ⟨_,_,_,hb,by decide⟩
theorem took_same {K:KV} (hk:K.Ok) (hu:K.Uni) {r s:Nat} {t u:TV} (h1:Names K r t) (h2:Names K s u) (ht:t.Ok) (hu':u.Ok) (e:t.n=u.n):(decide (u=t) != decide (s=r))=false:=by
 by_cases h:u=t
 ·subst h
  have:=Names.eq hk hu h1 h2
  subst this;simp
 ·have hne:s≠r:=fun e2=>by
   subst e2;exact h (Names.teq h2 h1 hu' ht e.symm)
  simp [h,hne]
theorem took_spec (n0 a b m:Nat) (rv tv:Value) (K:KV) (F:List Nat) (M:MV) (p:MPtr) (refs:List Nat) (tabs:List TV) (r:Nat) (c:Value) (t:TV) (w:World) (h:PIn w n0 a b m rv tv K F M p refs tabs) (l:PLog K M refs tabs) (ht:TIn w (F++p.all m) c t) (htn:t.n=K.vars) (hnm:Names K r t) :
  Calls Tryz.prog 63 #[.pointer (some ⟨a,0,none⟩),.int .u32 r,tabV t c] w fun e w'=>TookQ n0 a b m K F M p refs tabs r t w e w':=by
 obtain ⟨ra,rc,rfl,_⟩:=row_nil_len h.mem.rr;obtain ⟨xa,xc,rfl,hxa⟩:=h.mem.tt.form;obtain ⟨ta,tc,rfl,_⟩:=row_nil_len ht.row;have HL:=Lib.hid h;have HLG:=Lib.hid l;have HT:=Lib.hid ht;have HNM:=Lib.hid hnm
 have hv8:K.vars<=8:=by rw [<- l.km.agr.same.n];exact l.km.fit.n6
 have hMn:M.n=K.vars:=l.km.agr.same.n;have HU0:=Lib.hid ((Upd.refl [] w).alloc (.cells #[.int .i64 t.n,.slice ta t.ws.length tc] 122 (0,0)));have hb:=boxT w (.int .i64 t.n) (.slice ta t.ws.length tc)
 have HTB:Hid (∀ z,Upd [] w z->Calls Tryz.prog 140 #[.pointer (some ⟨b,0,none⟩),.int .i64 K.vars,.int .u32 r] z fun e w'=>TabSQ t z e w'):=fun z u=>by
  have e:K.tab r=t:=h.mem.ker.ok.tab_eq (by omega) hnm.1 ht.ok htn hnm.2;rw [<- e];exact scenetab_spec b r K F z (h.mem.ker.upd u (by simp)) hnm.1 hv8
 have HSM:Hid (∀ (z:World) (Z1 Z2:List Nat) (c1 c2:Value) (t1 t2:TV),TIn z Z1 c1 t1->TIn z Z2 c2 t2->Calls Tryz.prog 57 #[tabV t1 c1,tabV t2 c2] z fun e w'=>e=.returned (.bool (decide (t1=t2)))/\Upd [] z w'):=fun z Z1 Z2 c1 c2 t1 t2 h1 h2 =>
  same_spec [] c1 c2 t1 t2 z ⟨h1.ok,h1.row,by simp⟩ ⟨h2.ok,h2.row,by simp⟩
 have HC:Hid (∀ z,Upd [] w z->z.cell? ⟨a,0,none⟩=some (.pointer (some ⟨b,0,none⟩))/\z.cell? ⟨a,1,none⟩=some (.pointer (some ⟨m,0,none⟩))/\z.cell? ⟨a,2,none⟩=some (.slice ra refs.length rc)/\z.cell? ⟨a,3,none⟩=some (.slice xa tabs.length xc)/\z.cell? ⟨m,0,none⟩=some (.int .i64 K.vars)):=fun z u=>by
  obtain ⟨c0,c1,c2,c3⟩:=h.cells;have hm0:=h.mem.mod.cells.1;rw [hMn] at hm0;exact ⟨u.cell0 c0,u.cell0 c1,u.cell0 c2,u.cell0 c3,u.cell0 hm0⟩
 have hB1:∀ k,((Value.slice ra refs.length rc).ownBlock=some k\/(Value.slice xa tabs.length xc).ownBlock=some k)->k<w.heap.size/\k≠a:=fun k hk=>by
  rcases hk with hk | hk
  ·refine ⟨(h.mem.rr.lt k hk).2,fun e=>?_⟩
   subst e;exact blk_ne h.mem.rr h.blk (by decide) hk
  ·obtain ⟨xs,hr⟩:=h.mem.tt.row
   refine ⟨(hr.lt k hk).2,fun e=>?_⟩;subst e;exact blk_ne hr h.blk (by decide) hk
 have HB1:=Lib.hid hB1;have haw:a<w.heap.size:=heap_lt h.blk;obtain ⟨kv,hkv⟩ : ∃ kv,K.vars=kv:=⟨_,rfl⟩;have HKV:=Lib.hid hkv;rw [hkv] at HTB HC hv8
 have hn:t.n=kv:=by rw [htn,hkv]
 obtain ⟨n,hnn⟩ : ∃ n,t.n=n:=⟨_,rfl⟩;obtain ⟨W,hW⟩ : ∃ W,t.ws.length=W:=⟨_,rfl⟩;have HN:=Lib.hid hnn;have HWL:=Lib.hid hW
 have HNK:Hid (n=kv):=by show _=_;omega
 rw [hnn,hW] at HU0 hb
 have HX0:Hid (∀ z,Upd [] (w.alloc (.cells #[.int .i64 n,.slice ta W tc] 122 (0,0))) z->z.cell? ⟨w.heap.size,0,none⟩=some (.int .i64 n)/\z.cell? ⟨w.heap.size,1,none⟩=some (.slice ta W tc)):=fun z u=>boxT_keep u hb
 show Calls _ _ #[.pointer (some ⟨a,0,none⟩),.int .u32 r,.agg #[.int .i64 t.n,.slice ta t.ws.length tc]] _ _
 rw [hnn,hW]
 have htw:W<=1024:=by rw [<- hW];exact ht.ok.len_le
 clear h l ht hnm hMn hb hkv htn hnn hW hn hB1
 go_enter Tryz.func63,Tryz.ntmps63
 obtain ⟨w0,hw0⟩ : ∃ w0,w.alloc (.cells #[.int .i64 n,.slice ta W tc] 122 (0,0))=w0:=⟨_,rfl⟩;rw [hw0] at HU0 HX0;have HW0:=Lib.hid hw0;clear hw0
 have HSE:Hid (∀ z,Upd [] w0 z->z.cell? ⟨a,0,none⟩=some (.pointer (some ⟨b,0,none⟩))/\z.cell? ⟨a,1,none⟩=some (.pointer (some ⟨m,0,none⟩))/\z.cell? ⟨m,0,none⟩=some (.int .i64 kv)):=fun z u=>by
  obtain ⟨c0,c1,_,_,c4⟩:=HC.out z (HU0.out.trans u);exact ⟨c0,c1,c4⟩
 have HT0:=Lib.hid (HTB.out w0.drew HU0.out.drew);go_upto_region 1 with fail;rw [HW0.out]
 go_cut [7,8] from 11 to 26 (fun s7 s8 wc=>TkCut n W t w0 s7 s8 wc)
 case first =>
  refine wp_region_until (fun z=>z.cell? ⟨a,0,none⟩=some (.pointer (some ⟨b,0,none⟩))/\z.cell? ⟨a,1,none⟩=some (.pointer (some ⟨m,0,none⟩))/\z.cell? ⟨m,0,none⟩=some (.int .i64 kv)) (fun _=>True) [] (by kernel_rfl) ?_;have hS:=HSE.out _ (Upd.refl _ _).drew;have hE:True:=trivial;refine wpAnyU_takeS (i:=0) (v:=?v701) rfl (by kernel_rfl) (by kernel_rfl) (by kernel_rfl) (by kernel_rfl) (fun _ _ _ h=>h) (Or.inl ⟨by rfl,?hy701⟩) hS (fun _=>hE) ?rest701
  case hy701=>(intro x hSx;(try dsimp only at hSx);go_simp;try with_reducible rfl)
  (try simp only [Act.put,List.setIfInBounds_toArray])
  refine wpAnyU_takeS (i:=1) (v:=?v702) rfl (by kernel_rfl) (by kernel_rfl) (by kernel_rfl) (by kernel_rfl) (fun _ _ _ h=>h) (Or.inl ⟨by rfl,?hy702⟩) hS (fun _=>hE) ?rest702
  case hy702=>(intro x hSx;(try dsimp only at hSx);go_simp;try with_reducible rfl)
  (try simp only [Act.put])
  refine wpAnyU_takeS (i:=2) (v:=?v703) rfl (by kernel_rfl) (by kernel_rfl) (by kernel_rfl) (by kernel_rfl) (fun _ _ _ h=>h) (Or.inl ⟨by rfl,?hy703⟩) hS (fun _=>hE) ?rest703
  case hy703=>(intro x hSx;(try dsimp only at hSx);go_simp;try with_reducible rfl)
  (try simp only [Act.put])
  refine wpAnyU_takeS (i:=3) (v:=?v704) rfl (by kernel_rfl) (by kernel_rfl) (by kernel_rfl) (by kernel_rfl) (fun _ _ _ h=>h) (Or.inl ⟨by rfl,?hy704⟩) hS (fun _=>hE) ?rest704
  case hy704=>(intro x hSx;(try dsimp only at hSx);go_simp;try with_reducible rfl)
  (try simp only [Act.put])
  refine wpAnyU_takeS (i:=4) (v:=?v705) rfl (by kernel_rfl) (by kernel_rfl) (by kernel_rfl) (by kernel_rfl) (fun _ _ _ h=>h) (Or.inl ⟨by rfl,?hy705⟩) hS (fun _=>hE) ?rest705
  case hy705=>(intro x hSx;(try dsimp only at hSx);go_simp;try with_reducible rfl)
  (try simp only [Act.put])
  refine wpAnyU_takeS (i:=5) (v:=?v706) rfl (by kernel_rfl) (by kernel_rfl) (by kernel_rfl) (by kernel_rfl) (fun _ _ _ h=>h) (Or.inl ⟨by rfl,?hy706⟩) hS (fun _=>hE) ?rest706
  case hy706=>(intro x hSx;(try dsimp only at hSx);go_simp;try with_reducible rfl)
  (try simp only [Act.put])
  refine wpAnyU_takeS (i:=6) (v:=?v707) rfl (by kernel_rfl) (by kernel_rfl) (by kernel_rfl) (by kernel_rfl) (fun _ _ _ h=>h) (Or.inl ⟨by rfl,?hy707⟩) hS (fun _=>hE) ?rest707
  case hy707=>(intro x hSx;(try dsimp only at hSx);go_simp;try with_reducible rfl)
  (try simp only [Act.put])
  refine wpAnyU_takeS (i:=7) (v:=?v708) rfl (by kernel_rfl) (by kernel_rfl) (by kernel_rfl) (by kernel_rfl) (fun _ _ _ h=>h) (Or.inl ⟨by rfl,?hy708⟩) hS (fun _=>hE) ?rest708
  case hy708=>(intro x hSx;(try dsimp only at hSx);go_simp;try with_reducible rfl)
  (try simp only [Act.put])
  refine wpAnyU_takeS (i:=8) (v:=?v709) rfl (by kernel_rfl) (by kernel_rfl) (by kernel_rfl) (by kernel_rfl) (fun _ _ _ h=>h) (Or.inl ⟨by rfl,?hy709⟩) hS (fun _=>hE) ?rest709
  case hy709=>(intro x hSx;(try dsimp only at hSx);go_simp;try with_reducible rfl)
  (try simp only [Act.put])
  refine wpAnyU_takeS (i:=9) (v:=?v710) rfl (by kernel_rfl) (by kernel_rfl) (by kernel_rfl) (by kernel_rfl) (fun _ _ _ h=>h) (Or.inl ⟨by rfl,?hy710⟩) hS (fun _=>hE) ?rest710
  case hy710=>(intro x hSx;(try dsimp only at hSx);go_simp;try with_reducible rfl)
  (try simp only [Act.put])
  refine wpAnyU_takeS (i:=10) (v:=?v711) rfl (by kernel_rfl) (by kernel_rfl) (by kernel_rfl) (by kernel_rfl) (fun _ _ _ h=>h) (Or.inl ⟨by rfl,?hy711⟩) hS (fun _=>hE) ?rest711
  case hy711=>(intro x hSx;(try dsimp only at hSx);go_simp;try with_reducible rfl)
  (try simp only [Act.put])
  refine wpAnyU_takeS (i:=11) (v:=?v712) rfl (by kernel_rfl) (by kernel_rfl) (by kernel_rfl) (by kernel_rfl) (fun _ _ _ h=>h) (Or.inl ⟨by rfl,?hy712⟩) hS (fun _=>hE) ?rest712
  case hy712=>(intro x hSx;(try dsimp only at hSx);go_simp;try with_reducible rfl)
  (try simp only [Act.put])
  refine wpAnyU_ready (rs:=[12,16]) (by kernel_rfl) (by simp) ?_;refine AllReadyU.cons rfl (fun Kx hK=>?_) ?_
  ·
   go_simp
   refine (HTB.out _ (HU0.out.trans (Upd.refl [] w0).drew)).mono ?_;rintro e w1 hE1;obtain ⟨c1,rfl,hT1,hu⟩:=hE1.ex;obtain ⟨ga,gc,rfl,_⟩:=row_nil_len hT1.row;have HU1:Hid (Upd [] w0 w1):=Upd.trans (Upd.refl [] w0).drew hu;unfold tabV;rw [HWL.out] at hT1 ⊢;rw [HN.out];have HT1:=Lib.hid hT1;clear hE1 hu hT1;go_wp2_with fail;refine hK.out _ _ ⟨HSE.out _ HU1.out,fun _=>trivial⟩ (fun hHeld=>?_);clear hK Kx;obtain ⟨hS,hE⟩:=hHeld;have hE:=hE (by kernel_rfl)
   (try simp only [Act.put,List.setIfInBounds_toArray,List.set_cons_zero,List.set_cons_succ])
   refine wpAnyU_takeS (i:=13) (v:=?v713) rfl (by kernel_rfl) (by kernel_rfl) (by kernel_rfl) (by kernel_rfl) (fun _ _ _ h=>h) (Or.inl ⟨by rfl,?hy713⟩) hS (fun _=>hE) ?rest713
   case hy713=>(intro x hSx;(try dsimp only at hSx);go_simp;try with_reducible rfl)
   (try simp only [Act.put,List.setIfInBounds_toArray])
   refine wpAnyU_takeS (i:=14) (v:=?v714) rfl (by kernel_rfl) (by kernel_rfl) (by kernel_rfl) (by kernel_rfl) (fun _ _ _ h=>h) (Or.inl ⟨by rfl,?hy714⟩) hS (fun _=>hE) ?rest714
   case hy714=>(intro x hSx;(try dsimp only at hSx);go_simp;try with_reducible rfl)
   (try simp only [Act.put])
   refine wpAnyU_takeS (i:=15) (v:=?v715) rfl (by kernel_rfl) (by kernel_rfl) (by kernel_rfl) (by kernel_rfl) (fun _ _ _ h=>h) (Or.inl ⟨by rfl,?hy715⟩) hS (fun _=>hE) ?rest715
   case hy715=>(intro x hSx;(try dsimp only at hSx);go_simp;try with_reducible rfl)
   (try simp only [Act.put])
   refine wpAnyU_ready (rs:=[16]) (by kernel_rfl) (by simp) ?_;refine AllReadyU.cons rfl (fun Kx hK=>?_) ?_
   rotate_left
   exact AllReadyU.nil
   go_simp
   refine hK.out _ _ ⟨HSE.out _ (HU1.out.alloc _),fun _=>trivial⟩ (fun hHeld=>?_);clear hK Kx;obtain ⟨hS,hE⟩:=hHeld;have hE:=hE (by kernel_rfl)
   (try simp only [Act.put,List.setIfInBounds_toArray,List.set_cons_zero,List.set_cons_succ])
   refine wpAnyU_ready (rs:=[17]) (by kernel_rfl) (by simp) ?_;refine AllReadyU.cons rfl (fun Kx hK=>?_) ?_
   rotate_left
   exact AllReadyU.nil
   go_simp
   refine hK.out _ _ ⟨HSE.out _ (HU1.out.alloc _),fun _=>trivial⟩ (fun hHeld=>?_);clear hK Kx;obtain ⟨hS,hE⟩:=hHeld;have hE:=hE (by kernel_rfl)
   (try simp only [Act.put,List.setIfInBounds_toArray,List.set_cons_zero,List.set_cons_succ])
   refine wpAnyU_takeS (i:=18) (v:=?v716) rfl (by kernel_rfl) (by kernel_rfl) (by kernel_rfl) (by kernel_rfl) (fun _ _ _ h=>h) (Or.inl ⟨by rfl,?hy716⟩) hS (fun _=>hE) ?rest716
   case hy716=>(intro x hSx;(try dsimp only at hSx);go_simp;try with_reducible rfl)
   (try simp only [Act.put,List.setIfInBounds_toArray])
   refine wpAnyU_done (by kernel_rfl) ?_ _;clear hS hE
   (try go_simp)
   go_wp2_with fail;go_meet;exact TkCut.of1 HT1.out HU1.out
  refine AllReadyU.cons rfl (fun Kx hK=>?_) ?_
  rotate_left
  exact AllReadyU.nil
  go_simp
  refine hK.out _ _ ⟨HSE.out _ ((Upd.refl [] w0).drew.alloc _),fun _=>trivial⟩ (fun hHeld=>?_);clear hK Kx;obtain ⟨hS,hE⟩:=hHeld;have hE:=hE (by kernel_rfl)
  (try simp only [Act.put,List.setIfInBounds_toArray,List.set_cons_zero,List.set_cons_succ])
  refine wpAnyU_ready (rs:=[12]) (by kernel_rfl) (by simp) ?_;refine AllReadyU.cons rfl (fun Kx hK=>?_) ?_
  rotate_left
  exact AllReadyU.nil
  go_simp
  refine (HTB.out _ (HU0.out.trans ((Upd.refl [] w0).drew.alloc (.cells #[.int .i64 0,.slice none 0 0] 122 (0,0))))).mono ?_;rintro e w1 hE1;obtain ⟨c1,rfl,hT1,hu⟩:=hE1.ex;obtain ⟨ga,gc,rfl,_⟩:=row_nil_len hT1.row;have HU1:Hid (Upd [] w0 w1):=Upd.trans ((Upd.refl [] w0).drew.alloc (.cells #[.int .i64 0,.slice none 0 0] 122 (0,0))) hu;unfold tabV;rw [HWL.out] at hT1 ⊢;rw [HN.out];have HT1:=Lib.hid hT1;have hbx:=(hu.block w0.heap.size (by rw [World.size_alloc];show w0.heap.size<w0.heap.size+1;omega) (by simp)).trans (heap_alloc_new w0.drew (.cells #[.int .i64 0,.slice none 0 0] 122 (0,0)));have y0:=cell_at (j:=0) hbx rfl;have y1:=cell_at (j:=1) hbx rfl;have g0:=frozen_at 0 hbx;have g1:=frozen_at 1 hbx;have HBX:=Lib.hid hbx;clear hE1 hu hT1 hbx;go_wp2_with fail;refine hK.out _ _ ⟨HSE.out _ HU1.out,fun _=>trivial⟩ (fun hHeld=>?_);clear hK Kx;obtain ⟨hS,hE⟩:=hHeld;have hE:=hE (by kernel_rfl)
  (try simp only [Act.put,List.setIfInBounds_toArray,List.set_cons_zero,List.set_cons_succ])
  refine wpAnyU_takeS (i:=13) (v:=?v717) rfl (by kernel_rfl) (by kernel_rfl) (by kernel_rfl) (by kernel_rfl) (fun _ _ _ h=>h) (Or.inl ⟨by rfl,?hy717⟩) hS (fun _=>hE) ?rest717
  case hy717=>(intro x hSx;(try dsimp only at hSx);go_simp;try with_reducible rfl)
  (try simp only [Act.put,List.setIfInBounds_toArray])
  refine wpAnyU_takeS (i:=14) (v:=?v718) rfl (by kernel_rfl) (by kernel_rfl) (by kernel_rfl) (by kernel_rfl) (fun _ _ _ h=>h) (Or.inl ⟨by rfl,?hy718⟩) hS (fun _=>hE) ?rest718
  case hy718=>(intro x hSx;(try dsimp only at hSx);go_simp;try with_reducible rfl)
  (try simp only [Act.put])
  refine wpAnyU_takeS (i:=15) (v:=?v719) rfl (by kernel_rfl) (by kernel_rfl) (by kernel_rfl) (by kernel_rfl) (fun _ _ _ h=>h) (Or.inl ⟨by rfl,?hy719⟩) hS (fun _=>hE) ?rest719
  case hy719=>(intro x hSx;(try dsimp only at hSx);go_simp;try with_reducible rfl)
  (try simp only [Act.put])
  refine wpAnyU_ready (rs:=[17]) (by kernel_rfl) (by simp) ?_;refine AllReadyU.cons rfl (fun Kx hK=>?_) ?_
  rotate_left
  exact AllReadyU.nil
  go_simp
  refine hK.out _ _ ⟨HSE.out _ ((HU1.out.setCell (p:=⟨w0.heap.size,0,none⟩) (.inr (Nat.le_refl _)) _).setCell (p:=⟨w0.heap.size,1,none⟩) (.inr (Nat.le_refl _)) _),fun _=>trivial⟩ (fun hHeld=>?_);clear hK Kx;obtain ⟨hS,hE⟩:=hHeld;have hE:=hE (by kernel_rfl)
  (try simp only [Act.put,List.setIfInBounds_toArray,List.set_cons_zero,List.set_cons_succ])
  refine wpAnyU_takeS (i:=18) (v:=?v720) rfl (by kernel_rfl) (by kernel_rfl) (by kernel_rfl) (by kernel_rfl) (fun _ _ _ h=>h) (Or.inl ⟨by rfl,?hy720⟩) hS (fun _=>hE) ?rest720
  case hy720=>(intro x hSx;(try dsimp only at hSx);go_simp;try with_reducible rfl)
  (try simp only [Act.put,List.setIfInBounds_toArray])
  refine wpAnyU_done (by kernel_rfl) ?_ _;clear hS hE
  (try go_simp)
  go_wp2_with fail;go_meet;exact TkCut.of2 HBX.out HT1.out HU1.out
 case rest =>
  obtain ⟨B,ga,gc,rfl,rfl,hbB,hTg,hu1⟩:=hcut.ex;have HUC:=Lib.hid (HU0.out.trans hu1);have hs1:=HSM.out wc [] _ _ _ t t hTg (HT.out.keep0 HUC.out);unfold tabV at hs1;rw [HWL.out,HN.out] at hs1;rw [show decide (t=t)=true by simp] at hs1;have HS1:=Lib.hid hs1;have v0:=cell_at (j:=0) hbB rfl;have v1:=cell_at (j:=1) hbB rfl;obtain ⟨b0,b1⟩:=HX0.out wc hu1;clear hcut hbB hTg hu1 hs1;go_wp2_with fail;refine HS1.out.mono ?_;rintro e w2 ⟨rfl,hu⟩;have HU2:=Lib.hid (HUC.out.trans hu)
  have HXB:Hid (∀ z,Upd [] w2 z->z.cell? ⟨w.heap.size,0,none⟩=some (.int .i64 n)/\z.cell? ⟨w.heap.size,1,none⟩=some (.slice ta W tc)):=fun z u=>⟨u.cell0 (hu.cell0 b0),u.cell0 (hu.cell0 b1)⟩
  obtain ⟨_,_,c2,c3,_⟩:=HC.out w2 HU2.out;clear hu v0 v1 b0 b1;obtain ⟨TL,hTL⟩ : ∃ TL,tabs.length=TL:=⟨_,rfl⟩;have HTLE:=Lib.hid hTL
  have htl40:TL<=40:=by have h1:=HLG.out.lr;have h2:=HLG.out.rb;omega
  rw [hTL] at c3;clear hTL;go_wp2_with fail
  go_loopg [40] TL (fun gg s40 wr=>∃ i:Nat,TL-i=gg/\i<=TL/\s40=.int .i64 i/\Upd [] w2 wr)
  case atStart=>exact ⟨0,by omega,by omega,rfl,Upd.refl _ _⟩
  case round =>
   obtain ⟨i,rfl,hi,rfl,hU⟩:=hrel
   by_cases hlt:i<TL
   ·have hil:(i:Int)<(TL:Int):=by omega
    have hi0:(0:Int)<=(i:Int):=by omega
    obtain ⟨u,hu⟩ : ∃ u,tabs[i]?=some u:=⟨_,List.getElem?_eq_getElem (by have h:=HTLE.out;omega)⟩
    have hrl:refs.length=TL:=by have h1:=HLG.out.lr;have h2:=HTLE.out;omega
    obtain ⟨s,hs⟩ : ∃ s,refs[i]?=some s:=⟨_,List.getElem?_eq_getElem (by omega)⟩;have HPI:=Lib.hid (HL.out.keep0 (HU2.out.trans hU));obtain ⟨g,rfl⟩:=hxa (by have h:=HTLE.out;omega);obtain ⟨cu,x0,x1,htu⟩:=HPI.out.mem.tt.at_ hu;obtain ⟨ua,uc,rfl,_⟩:=row_nil_len htu.row;obtain ⟨gr,rfl⟩:=row_some HPI.out.mem.rr (by omega);have z0:=row_cell HPI.out.mem.rr (flatRefs_get hs)
    have hun:u.n=n:=by have h1:=(HLG.out.ok u (List.mem_of_getElem? hu)).2;have h2:K.vars=kv:=HKV.out;have h3:n=kv:=HNK.out;omega
    have hsame:(decide (u=t) != decide (s=r))=false:=took_same HL.out.mem.ker.ok HL.out.mem.ker.uni HNM.out (HLG.out.nm i s u hs hu) HT.out.ok (HLG.out.ok u (List.mem_of_getElem? hu)).1 (by rw [HN.out,hun]);obtain ⟨du,hdu⟩ : ∃ du,decide (u=t)=du:=⟨_,rfl⟩
    have hdr:((s:Int) == (r:Int))=du:=by
     rw [hdu] at hsame
     have h2:decide (s=r)=du:=by cases du <;> simpa using hsame
     rw [<- h2,Bool.eq_iff_iff];simp;omega
    have hdd:(du != du)=false:=by simp
    obtain ⟨UW,hUW⟩ : ∃ UW,u.ws.length=UW:=⟨_,rfl⟩;rw [hun] at x0;rw [hUW] at x1;have hbx:=boxT wr (.int .i64 n) (.slice ua UW uc);have hu6:Upd [] wr (wr.alloc (.cells #[.int .i64 n,.slice ua UW uc] 122 (0,0))):=(Upd.refl _ _).alloc _;obtain ⟨w6,hw6⟩ : ∃ w6,wr.alloc (.cells #[.int .i64 n,.slice ua UW uc] 122 (0,0))=w6:=⟨_,rfl⟩;rw [hw6] at hbx hu6;have HW6:=Lib.hid hw6
    have HSS:Hid (∀ z,Upd [] w6 z->Calls Tryz.prog 57 #[.agg #[.int .i64 n,.slice ua UW uc],.agg #[.int .i64 n,.slice ta W tc]] z fun e w'=>e=.returned (.bool du)/\Upd [] z w'):=fun z uz=>by
     have h1:=HSM.out z _ _ _ _ u t ((htu.keep0 hu6).keep0 uz) (HT.out.keep0 ((HU2.out.trans hU).trans (hu6.trans uz)));unfold tabV at h1;rw [HWL.out,HN.out,hun,hUW,hdu] at h1;exact h1
    have HSE2:Hid (∀ z,Upd [] w6 z->(z.cell? ⟨wr.heap.size,0,none⟩=some (.int .i64 n)/\z.cell? ⟨wr.heap.size,1,none⟩=some (.slice ua UW uc))/\(z.cell? ⟨w.heap.size,0,none⟩=some (.int .i64 n)/\z.cell? ⟨w.heap.size,1,none⟩=some (.slice ta W tc))/\z.cell? ⟨a,2,none⟩=some (.slice (some ⟨gr,0,none⟩) refs.length rc)/\z.cell? ⟨gr,i,none⟩=some (.int .u32 s)):=fun z uz =>
     ⟨boxT_keep uz hbx,HXB.out z (hU.trans (hu6.trans uz)),(HC.out z ((HU2.out.trans hU).trans (hu6.trans uz))).2.2.1,uz.cell0 (hu6.cell0 z0)⟩
    have HUU:=Lib.hid (hU.trans hu6)
    have hrlT:(i:Int)<(refs.length:Int):=by omega
    have hrlN:i<refs.length:=by omega
    rw [hrl] at HSE2 hrlT hrlN;clear hU hu hs htu hun hsame hdu hUW hu6 hw6 z0 c2 hrlT hrlN hrl;go_wp2_with fail;rw [HW6.out]
    go_region_held3 (fun z=>(z.cell? ⟨wr.heap.size,0,none⟩=some (.int .i64 n)/\z.cell? ⟨wr.heap.size,1,none⟩=some (.slice ua UW uc))/\(z.cell? ⟨w.heap.size,0,none⟩=some (.int .i64 n)/\z.cell? ⟨w.heap.size,1,none⟩=some (.slice ta W tc))/\z.cell? ⟨a,2,none⟩=some (.slice (some ⟨gr,0,none⟩) TL rc)/\z.cell? ⟨gr,i,none⟩=some (.int .u32 s)) (first | exact HSE2.out _ (Upd.refl _ _).drew | exact HSE2.out _ HU7.out) (first
     | (go_at_call 57;refine (HSS.out _ (Upd.refl _ _).drew).mono ?_;rintro e w7 ⟨rfl,hu⟩;have HU7:=Lib.hid ((Upd.refl [] w6).drew.trans hu);clear hu))
    go_wp2_with fail
    go_roundg (TL-(i+1))
    case measure=>omega
    case rel=>exact ⟨i+1,rfl,by omega,by first | rfl | (rw [wrap_next (by omega)]) | simp,HUU.out.trans HU7.out⟩
   ·obtain rfl:i=TL:=by omega
    have hil:¬ ((i:Int)<(i:Int)):=by omega
    generalize wr=w3 at *;have HL3:=Lib.hid (And.intro (HL.out.keep0 (HU2.out.trans hU)) (Fro.of0 (n0:=n0) (HU2.out.trans hU)))
    have HTW3:Hid (TIn w3 (F++p.all m) (.slice ta W tc) t):=by
     have h:=HT.out.keep0 (HU2.out.trans hU)
     rw [HWL.out] at h;exact h
    obtain ⟨b0,b1⟩:=HXB.out w3 hU;obtain ⟨c0,_,c2,c3,_⟩:=HC.out w3 (HU2.out.trans hU)
    have HS:Hid (∀ x:World,Upd ((Value.slice ra refs.length rc).ownBlock.toList++(Value.slice xa tabs.length xc).ownBlock.toList) w3 x->x.cell? ⟨a,2,none⟩=some (.slice ra refs.length rc)/\x.cell? ⟨a,3,none⟩=some (.slice xa tabs.length xc)/\x.cell? ⟨w.heap.size,0,none⟩=some (.int .i64 n)/\x.cell? ⟨w.heap.size,1,none⟩=some (.slice ta W tc)):=fun x u=>by
     have no:∀ k,(k=a\/k=w.heap.size)->k∉(Value.slice ra refs.length rc).ownBlock.toList++(Value.slice xa tabs.length xc).ownBlock.toList:=fun k hk hm=>by
      have hm:(Value.slice ra refs.length rc).ownBlock=some k\/(Value.slice xa tabs.length xc).ownBlock=some k:=by simpa using hm
      have:=HB1.out k hm
      rcases hk with rfl | rfl
      ·exact this.2 rfl
      ·omega
     exact ⟨(u.cell (World.block_lt_of_cell? _ _ c2) (no a (.inl rfl))).trans c2,(u.cell (World.block_lt_of_cell? _ _ c3) (no a (.inl rfl))).trans c3,(u.cell (World.block_lt_of_cell? _ _ b0) (no _ (.inr rfl))).trans b0,(u.cell (World.block_lt_of_cell? _ _ b1) (no _ (.inr rfl))).trans b1⟩
    clear hU HTB HSM HC HX0 HXB HSE HT0;go_upto_region 10 with fail;obtain ⟨cs,hcs1,hcs2,hcs3⟩:=HL3.out.1.mem.tt.ex;obtain ⟨tr,hr0,hr1,hr2,hr3⟩:=info_parts Tryz.infoRefS;obtain ⟨tt,ht0,ht1,ht2,ht3⟩:=info_parts Tryz.infoTable;have HIR:=Lib.hid (And.intro hr0 (And.intro hr1 (And.intro hr2 hr3)));have HIT:=Lib.hid (And.intro ht0 (And.intro ht1 (And.intro ht2 ht3)));have HCS:=Lib.hid (And.intro hcs1 (And.intro hcs2 hcs3))
    have HRR:Hid (∀ x:World,Upd (Value.slice xa tabs.length xc).ownBlock.toList w3 x->x.ownsRow 0 77 1 (.slice ra refs.length rc) refs.length (flatRefs refs)):=fun x u=>row_keep HL3.out.1.mem.rr fun k hk=>u.block k (HL3.out.1.mem.rr.lt k hk).2 fun hm=>ty_ne HL3.out.1.mem.rr HCS.out.2.1 (by decide) hk (by simpa using hm)
    have HRT:Hid (∀ x:World,Upd (Value.slice ra refs.length rc).ownBlock.toList w3 x->x.ownsRow 0 122 2 (.slice xa tabs.length xc) tabs.length (flatTT tabs cs)):=fun x u=>row_keep HCS.out.2.1 fun k hk=>u.block k (HCS.out.2.1.lt k hk).2 fun hm=>ty_ne HCS.out.2.1 HL3.out.1.mem.rr (by decide) hk (by simpa using hm)
    have HFZ:Hid (∀ x:World,Upd ((Value.slice ra refs.length rc).ownBlock.toList++(Value.slice xa tabs.length xc).ownBlock.toList) w3 x->x.frozen? ⟨a,2,none⟩=false/\x.frozen? ⟨a,3,none⟩=false/\x.cell? ⟨a,2,none⟩=some (.slice ra refs.length rc)/\x.cell? ⟨a,3,none⟩=some (.slice xa tabs.length xc)):=fun x u=>by
     have no:a∉(Value.slice ra refs.length rc).ownBlock.toList++(Value.slice xa tabs.length xc).ownBlock.toList:=fun hm=>by
      rcases List.mem_append.1 hm with hm | hm
      ·exact blk_ne HL3.out.1.mem.rr HL3.out.1.blk (by decide) (by simpa using hm)
      ·exact blk_ne HCS.out.2.1 HL3.out.1.blk (by decide) (by simpa using hm)
     have hb:=(u.block a (heap_lt HL3.out.1.blk) no).trans HL3.out.1.blk;exact ⟨frozen_at 2 hb,frozen_at 3 hb,cell_at hb rfl,cell_at hb rfl⟩
    have HRL:Hid (∀ k,some k=(Value.slice ra refs.length rc).ownBlock->k<w3.heap.size):=fun k hk=>(HL3.out.1.mem.rr.lt k hk.symm).2
    have HC1:Hid (∀ u,u∈[Value.int .u32 r]->u.oneCell'=true):=by intro u hu;simp at hu;subst hu;rfl
    have HC2:Hid (∀ u,u∈[Value.int .i64 n,Value.slice ta W tc]->u.oneCell'=true):=by intro u hu;simp at hu;rcases hu with rfl | rfl <;> rfl
    have htl:tabs.length<=500:=by have h1:=HLG.out.lr;have h2:=HLG.out.rb;omega
    have hrl:refs.length<=500:=by have h2:=HLG.out.rb;omega
    clear hr0 hr1 hr2 hr3 ht0 ht1 ht2 ht3 hcs1 hcs2 hcs3
    have HDONE:Hid (∀ (g1 cap1 g2 cap2:Nat) (w6:World),Upd ((Value.slice ra refs.length rc).ownBlock.toList++(Value.slice xa tabs.length xc).ownBlock.toList) w3 w6->w6.ownsRow 0 77 1 (.slice (some ⟨g1,0,none⟩) (refs.length+1) cap1) (refs.length+1) (flatRefs refs++[.int .u32 r]) ->
      w6.ownsRow 0 122 2 (.slice (some ⟨g2,0,none⟩) (tabs.length+1) cap2) (tabs.length+1) (flatTT tabs cs++[.int .i64 n,.slice ta W tc])->(((Value.slice ra refs.length rc).ownBlock=some g1\/w3.heap.size<=g1)/\((Value.slice xa tabs.length xc).ownBlock=some g2\/w3.heap.size<=g2)) ->
      TookQ n0 a b m K F M p refs tabs r t w (.returned (.bool true)) ((w6.setCell ⟨a,2,none⟩ (.slice (some ⟨g1,0,none⟩) (refs.length+1) cap1)).setCell ⟨a,3,none⟩ (.slice (some ⟨g2,0,none⟩) (tabs.length+1) cap2))):=fun g1 cap1 g2 cap2 w6 u o1 o2 at_=>by
     rw [<- HN.out] at o2;obtain ⟨hl,hf⟩:=HL3.out.1.push u HCS.out.1 HCS.out.2.2 o1 o2 at_.1 at_.2 HTW3.out;exact ⟨_,_,rfl,hl,HL3.out.2.trans hf⟩
    obtain ⟨y02,y03,y00,y01⟩:=HS.out (w3.alloc (.cells #[.int .u32 r] 77 (0,0))) ((Upd.refl _ _).alloc _);obtain ⟨y12,y13,y10,y11⟩:=HS.out (w3.alloc (.cells #[.int .i64 n,.slice ta W tc] 122 (0,0))) ((Upd.refl _ _).alloc _);obtain ⟨y22,y23,y20,y21⟩:=HS.out ((w3.alloc (.cells #[.int .u32 r] 77 (0,0))).alloc (.cells #[.int .i64 n,.slice ta W tc] 122 (0,0))) (((Upd.refl _ _).alloc _).alloc _);obtain ⟨y32,y33,y30,y31⟩:=HS.out ((w3.alloc (.cells #[.int .i64 n,.slice ta W tc] 122 (0,0))).alloc (.cells #[.int .u32 r] 77 (0,0))) (((Upd.refl _ _).alloc _).alloc _)
    have HXB:Hid (((w3.alloc (.cells #[.int .u32 r] 77 (0,0))).alloc (.cells #[.int .i64 n,.slice ta W tc] 122 (0,0))).heap[w3.heap.size+1]?=some (.cells #[.int .i64 n,.slice ta W tc] 122 (0,0))):=by
     have h:=heap_alloc_new (w3.alloc (.cells #[.int .u32 r] 77 (0,0))) (.cells #[.int .i64 n,.slice ta W tc] 122 (0,0))
     rw [World.size_alloc] at h;exact h
    have HXC:Hid (((w3.alloc (.cells #[.int .i64 n,.slice ta W tc] 122 (0,0))).alloc (.cells #[.int .u32 r] 77 (0,0))).heap[w3.heap.size]?=some (.cells #[.int .i64 n,.slice ta W tc] 122 (0,0))):=(Below.heap_alloc _ _ _ (heap_lt (heap_alloc_new _ _))).trans (heap_alloc_new _ _)
    have HNX:Hid (∀ k,w3.heap.size<=k->some k≠(Value.slice ra refs.length rc).ownBlock):=fun k hk e=>by have:=HRL.out k e;omega
    have HX1A:Hid ((w3.alloc (.cells #[.int .u32 r] 77 (0,0))).heap[w3.heap.size]?=some (.cells #[.int .u32 r] 77 (0,0))):=heap_alloc_new _ _;have HX1B:Hid (((w3.alloc (.cells #[.int .u32 r] 77 (0,0))).alloc (.cells #[.int .i64 n,.slice ta W tc] 122 (0,0))).heap[w3.heap.size]?=some (.cells #[.int .u32 r] 77 (0,0))):=(Below.heap_alloc _ _ _ (heap_lt (heap_alloc_new _ _))).trans (heap_alloc_new _ _)
    have HX1C:Hid (((w3.alloc (.cells #[.int .i64 n,.slice ta W tc] 122 (0,0))).alloc (.cells #[.int .u32 r] 77 (0,0))).heap[w3.heap.size+1]?=some (.cells #[.int .u32 r] 77 (0,0))):=by
     have h:=heap_alloc_new (w3.alloc (.cells #[.int .i64 n,.slice ta W tc] 122 (0,0))) (.cells #[.int .u32 r] 77 (0,0))
     rw [World.size_alloc] at h;exact h
    have HSB:Hid (∀ x:World,Upd ((Value.slice ra refs.length rc).ownBlock.toList++(Value.slice xa tabs.length xc).ownBlock.toList) w3 x->x.cell? ⟨w.heap.size,0,none⟩=some (.int .i64 n)/\x.cell? ⟨w.heap.size,1,none⟩=some (.slice ta W tc)):=fun x u=>⟨(HS.out x u).2.2.1,(HS.out x u).2.2.2⟩
    have hne:w.heap.size≠a:=by omega
    have HSE:Hid (∀ x:World,Upd ((Value.slice ra refs.length rc).ownBlock.toList++(Value.slice xa tabs.length xc).ownBlock.toList) w3 x->(x.cell? ⟨w.heap.size,0,none⟩=some (.int .i64 n)/\x.cell? ⟨w.heap.size,1,none⟩=some (.slice ta W tc))/\x.cell? ⟨a,2,none⟩=some (.slice ra refs.length rc)/\x.cell? ⟨a,3,none⟩=some (.slice xa tabs.length xc)):=fun x u=>⟨HSB.out x u,(HFZ.out x u).2.2.1,(HFZ.out x u).2.2.2⟩
    refine wp_region_until (fun x=>x.cell? ⟨w.heap.size,0,none⟩=some (.int .i64 n)/\x.cell? ⟨w.heap.size,1,none⟩=some (.slice ta W tc)) (fun x=>x.cell? ⟨a,2,none⟩=some (.slice ra refs.length rc)/\x.cell? ⟨a,3,none⟩=some (.slice xa tabs.length xc)) [18,21] (by kernel_rfl) ?_;have hS:=(HSE.out _ (Upd.refl _ _).drew).1;have hE:=(HSE.out _ (Upd.refl _ _).drew).2;refine wpAnyU_takeS (i:=0) (v:=?v1) rfl (by kernel_rfl) (by kernel_rfl) (by kernel_rfl) (by kernel_rfl) (fun _ _ _ h=>h) (Or.inl ⟨by rfl,?hy1⟩) hS (fun _=>hE) ?rest1
    case hy1=>(intro x hSx;(try dsimp only at hSx);go_simp;try with_reducible rfl)
    (try simp only [Act.put,List.setIfInBounds_toArray])
    refine wpAnyU_takeS (i:=1) (v:=?v901) rfl (by kernel_rfl) (by kernel_rfl) (by kernel_rfl) (by kernel_rfl) (fun _ _ _ h=>h) (Or.inl ⟨by rfl,?hy901⟩) hS (fun _=>hE) ?rest901
    case hy901=>(intro x hSx;(try dsimp only at hSx);go_simp;try with_reducible rfl)
    (try simp only [Act.put])
    refine wpAnyU_takeS (i:=2) (v:=?v2) rfl (by kernel_rfl) (by kernel_rfl) (by kernel_rfl) (by kernel_rfl) (fun _ _ _ h=>h) (Or.inl ⟨by rfl,?hy2⟩) hS (fun _=>hE) ?rest2
    case hy2=>(intro x hSx;(try dsimp only at hSx);go_simp;try with_reducible rfl)
    (try simp only [Act.put])
    refine wpAnyU_takeS (i:=3) (v:=?v3) rfl (by kernel_rfl) (by kernel_rfl) (by kernel_rfl) (by kernel_rfl) (fun _ _ _ h=>h) (Or.inl ⟨by rfl,?hy3⟩) hS (fun _=>hE) ?rest3
    case hy3=>(intro x hSx;(try dsimp only at hSx);go_simp;try with_reducible rfl)
    (try simp only [Act.put])
    refine wpAnyU_takeS (i:=4) (v:=?v4) rfl (by kernel_rfl) (by kernel_rfl) (by kernel_rfl) (by kernel_rfl) (fun _ _ _ h=>h) (Or.inl ⟨by rfl,?hy4⟩) hS (fun _=>hE) ?rest4
    case hy4=>(intro x hSx;(try dsimp only at hSx);go_simp;try with_reducible rfl)
    (try simp only [Act.put])
    refine wpAnyU_takeE (i:=5) (v:=?v5) rfl (by kernel_rfl) (by kernel_rfl) (by kernel_rfl) (by kernel_rfl) (by kernel_rfl) (by kernel_rfl) (fun _ _ _ h=>h) (Or.inl ⟨by rfl,?hy5⟩) hS (fun _=>hE) ?rest5
    case hy5=>(intro x hSx;(try dsimp only at hSx);go_simp;try with_reducible rfl)
    (try simp only [Act.put])
    refine wpAnyU_takeS (i:=6) (v:=?v6) rfl (by kernel_rfl) (by kernel_rfl) (by kernel_rfl) (by kernel_rfl) (fun _ _ _ h=>h) (Or.inl ⟨by rfl,?hy6⟩) hS (fun _=>hE) ?rest6
    case hy6=>(intro x hSx;(try dsimp only at hSx);go_simp;try with_reducible rfl)
    (try simp only [Act.put])
    refine wpAnyU_takeS (i:=9) (v:=?v7) rfl (by kernel_rfl) (by kernel_rfl) (by kernel_rfl) (by kernel_rfl) (fun _ _ _ h=>h) (Or.inl ⟨by rfl,?hy7⟩) hS (fun _=>hE) ?rest7
    case hy7=>(intro x hSx;(try dsimp only at hSx);go_simp;try with_reducible rfl)
    (try simp only [Act.put])
    refine wpAnyU_takeS (i:=10) (v:=?v8) rfl (by kernel_rfl) (by kernel_rfl) (by kernel_rfl) (by kernel_rfl) (fun _ _ _ h=>h) (Or.inl ⟨by rfl,?hy8⟩) hS (fun _=>hE) ?rest8
    case hy8=>(intro x hSx;(try dsimp only at hSx);go_simp;try with_reducible rfl)
    (try simp only [Act.put])
    refine wpAnyU_takeS (i:=11) (v:=?v9) rfl (by kernel_rfl) (by kernel_rfl) (by kernel_rfl) (by kernel_rfl) (fun _ _ _ h=>h) (Or.inl ⟨by rfl,?hy9⟩) hS (fun _=>hE) ?rest9
    case hy9=>(intro x hSx;(try dsimp only at hSx);go_simp;try with_reducible rfl)
    (try simp only [Act.put])
    refine wpAnyU_takeE (i:=12) (v:=?v10) rfl (by kernel_rfl) (by kernel_rfl) (by kernel_rfl) (by kernel_rfl) (by kernel_rfl) (by kernel_rfl) (fun _ _ _ h=>h) (Or.inl ⟨by rfl,?hy10⟩) hS (fun _=>hE) ?rest10
    case hy10=>(intro x hSx;(try dsimp only at hSx);go_simp;try with_reducible rfl)
    (try simp only [Act.put])
    refine wpAnyU_takeS (i:=13) (v:=?v11) rfl (by kernel_rfl) (by kernel_rfl) (by kernel_rfl) (by kernel_rfl) (fun _ _ _ h=>h) (Or.inl ⟨by rfl,?hy11⟩) hS (fun _=>hE) ?rest11
    case hy11=>(intro x hSx;(try dsimp only at hSx);go_simp;try with_reducible rfl)
    (try simp only [Act.put])
    refine wpAnyU_ready (rs:=[7,14]) (by kernel_rfl) (by simp) ?_;refine AllReadyU.cons rfl (fun K hK=>?_) ?_
    ·go_simp
     refine hK.out _ _ ⟨(HSE.out _ ((Upd.refl _ _).drew.alloc _)).1,fun _=>(HSE.out _ ((Upd.refl _ _).drew.alloc _)).2⟩ (fun hHeld=>?_);clear hK K;obtain ⟨hS,hE⟩:=hHeld;have hE:=hE (by kernel_rfl)
     (try simp only [Act.put,List.setIfInBounds_toArray,List.set_cons_zero,List.set_cons_succ])
     refine wpAnyU_ready (rs:=[8,14]) (by kernel_rfl) (by simp) ?_;refine AllReadyU.cons rfl (fun K hK=>?_) ?_
     ·
      (refine step_append_lies _ (by rfl) (.tmp 64) (.tmp 66) 42 (by rfl) 0 77 tr _ 1 4 Tryz.underlying42 HIR.out.1 HIR.out.2.1 HIR.out.2.2.1 HIR.out.2.2.2 (by rfl) (by decide) (.slice ra refs.length rc) refs.length (flatRefs refs) (by rfl) (HRR.out _ (by repeat (first | exact Upd.refl _ _ | refine Upd.drew ?_ | refine Upd.alloc ?_ _))) ⟨_,0,none⟩ 1 1 [.int .u32 r] (by rfl) (by rfl) (World.news_of_block (cs:=#[.int .u32 r]) (t:=77) (fr:=(0,0)) (by first | exact HX1A.out | exact HX1B.out | exact HX1C.out)) HC1.out (by omega) (by unfold maxLen;omega) (by omega) (Nat.zero_le _) _ (by rfl) ?_;intro g1 cap1 w5 hown1 hgr1 hat1 hlt1;have HG1:=Lib.hid (And.intro (Upd.grown (S:=(Value.slice ra refs.length rc).ownBlock.toList++(Value.slice xa tabs.length xc).ownBlock.toList) (w:=w3) (by repeat (first | exact Upd.refl _ _ | refine Upd.drew ?_ | refine Upd.alloc ?_ _)) hgr1 (fun k hk=>.inl (by simp [hk]))) (And.intro (Upd.grown (S:=(Value.slice ra refs.length rc).ownBlock.toList) (w:=w3) (by repeat (first | exact Upd.refl _ _ | refine Upd.drew ?_ | refine Upd.alloc ?_ _)) hgr1 (fun k hk=>.inl (by simp [hk]))) (And.intro hown1 (app_at (w:=w3) (S:=[]) (by repeat (first | exact Upd.refl _ _ | refine Upd.drew ?_ | refine Upd.alloc ?_ _)) hat1))));have HGR1:=Lib.hid hgr1;obtain ⟨q2,q3,q0,q1⟩:=HS.out w5 HG1.out.1;obtain ⟨p2,p3',p0,p1⟩:=HS.out (w5.alloc (.cells #[.int .i64 n,.slice ta W tc] 122 (0,0))) (HG1.out.1.alloc _);clear hown1 hgr1 hat1 hlt1)
      refine hK.out _ _ ⟨(HSE.out _ HG1.out.1).1,fun _=>(HSE.out _ HG1.out.1).2⟩ (fun hHeld=>?_);clear hK K;obtain ⟨hS,hE⟩:=hHeld;have hE:=hE (by kernel_rfl)
      (try simp only [Act.put,List.setIfInBounds_toArray])
      refine wpAnyU_ready (rs:=[14]) (by kernel_rfl) (by simp) ?_;refine AllReadyU.cons rfl (fun K hK=>?_) ?_
      rotate_left
      exact AllReadyU.nil
      go_simp
      refine hK.out _ _ ⟨(HSE.out _ (HG1.out.1.alloc _)).1,fun _=>(HSE.out _ (HG1.out.1.alloc _)).2⟩ (fun hHeld=>?_);clear hK K;obtain ⟨hS,hE⟩:=hHeld;have hE:=hE (by kernel_rfl)
      (try simp only [Act.put,List.setIfInBounds_toArray,List.set_cons_zero,List.set_cons_succ])
      refine wpAnyU_ready (rs:=[15]) (by kernel_rfl) (by simp) ?_;refine AllReadyU.cons rfl (fun K hK=>?_) ?_
      rotate_left
      exact AllReadyU.nil
      (refine step_append_lies _ (by rfl) (.tmp 71) (.tmp 73) 22 (by rfl) 0 122 tt _ 2 32 Tryz.underlying22 HIT.out.1 HIT.out.2.1 HIT.out.2.2.1 HIT.out.2.2.2 (by rfl) (by decide) (.slice xa tabs.length xc) tabs.length (flatTT tabs cs) (by rfl) (HRT.out _ (by repeat (first | exact HG1.out.2.1 | refine Upd.drew ?_ | refine Upd.alloc ?_ _))) ⟨_,0,none⟩ 1 1 [.int .i64 n,.slice ta W tc] (by rfl) (by rfl) (World.news_of_block (cs:=#[.int .i64 n,.slice ta W tc]) (t:=122) (fr:=(0,0)) (by first | exact heap_alloc_new _ _ | exact (HGR1.out.block _ (heap_lt HXB.out) (HNX.out _ (by omega))).trans HXB.out | exact (HGR1.out.block _ (heap_lt HXC.out) (HNX.out _ (by omega))).trans HXC.out)) HC2.out (by omega) (by unfold maxLen;omega) (by omega) (Nat.zero_le _) _ (by rfl) ?_;intro g2 cap2 w6 hown2 hgr2 hat2 hlt2;have HG2:=Lib.hid (And.intro (Upd.grown (S:=(Value.slice ra refs.length rc).ownBlock.toList++(Value.slice xa tabs.length xc).ownBlock.toList) (w:=w3) (by repeat (first | exact HG1.out.1 | refine Upd.drew ?_ | refine Upd.alloc ?_ _)) hgr2 (fun k hk=>.inl (by simp [hk]))) (And.intro (row_grow (by repeat (first | exact Upd.refl _ _ | refine Upd.drew ?_ | refine Upd.alloc ?_ _)) hgr2 HG1.out.2.2.1 (fun k hk hq=>ty_ne HG1.out.2.2.1 (HRT.out _ HG1.out.2.1) (by decide) hk hq)) (And.intro hown2 (And.intro HG1.out.2.2.2 (app_at (w:=w3) (S:=(Value.slice ra refs.length rc).ownBlock.toList++(Value.slice xa tabs.length xc).ownBlock.toList) (by repeat (first | exact HG1.out.1 | refine Upd.drew ?_ | refine Upd.alloc ?_ _)) hat2)))));obtain ⟨fz2,fz3,k2,k3⟩:=HFZ.out w6 HG2.out.1;clear hown2 hgr2 hat2 hlt2 HGR1 HG1)
      refine hK.out _ _ ⟨(HSE.out _ HG2.out.1).1,fun _=>(HSE.out _ HG2.out.1).2⟩ (fun hHeld=>?_);clear hK K;obtain ⟨hS,hE⟩:=hHeld;have hE:=hE (by kernel_rfl)
      (try simp only [Act.put,List.setIfInBounds_toArray])
      refine wpAnyU_takeS (i:=16) (v:=?v12) rfl (by kernel_rfl) (by kernel_rfl) (by kernel_rfl) (by kernel_rfl) (fun _ _ _ h=>h) (Or.inl ⟨by rfl,?hy12⟩) hS (fun _=>hE) ?rest12
      case hy12=>(intro x hSx;(try dsimp only at hSx);go_simp;try with_reducible rfl)
      (try simp only [Act.put])
      refine wpAnyU_takeS (i:=17) (v:=?v13) rfl (by kernel_rfl) (by kernel_rfl) (by kernel_rfl) (by kernel_rfl) (fun _ _ _ h=>h) (Or.inl ⟨by rfl,?hy13⟩) hS (fun _=>hE) ?rest13
      case hy13=>(intro x hSx;(try dsimp only at hSx);go_simp;try with_reducible rfl)
      (try simp only [Act.put])
      refine wpAnyU_ready (rs:=[18]) (by kernel_rfl) (by simp) ?_;refine AllReadyU.cons rfl (fun K hK=>?_) ?_
      rotate_left
      exact AllReadyU.nil
      go_simp
      refine hK.out _ _ ⟨(by refine box_set (HSB.out _ HG2.out.1) ?_ _;assumption),fun h=>noE (by kernel_rfl) h⟩ (fun hHeld=>?_);clear hK K;obtain ⟨hS,_⟩:=hHeld
      (try simp only [Act.put,List.setIfInBounds_toArray,List.set_cons_zero,List.set_cons_succ])
      refine wpAnyU_takeS (i:=19) (v:=?v15) rfl (by kernel_rfl) (by kernel_rfl) (by kernel_rfl) (by kernel_rfl) (fun _ _ _ h=>h) (Or.inl ⟨by rfl,?hy15⟩) hS (fun h=>noE (by kernel_rfl) h) ?rest15
      case hy15=>(intro x hSx;(try dsimp only at hSx);go_simp;try with_reducible rfl)
      (try simp only [Act.put,List.setIfInBounds_toArray])
      refine wpAnyU_takeS (i:=20) (v:=?v16) rfl (by kernel_rfl) (by kernel_rfl) (by kernel_rfl) (by kernel_rfl) (fun _ _ _ h=>h) (Or.inl ⟨by rfl,?hy16⟩) hS (fun h=>noE (by kernel_rfl) h) ?rest16
      case hy16=>(intro x hSx;(try dsimp only at hSx);go_simp;try with_reducible rfl)
      (try simp only [Act.put])
      refine wpAnyU_ready (rs:=[21]) (by kernel_rfl) (by simp) ?_;refine AllReadyU.cons rfl (fun K hK=>?_) ?_
      rotate_left
      exact AllReadyU.nil
      go_simp
      refine hK.out _ _ ⟨(by refine box_set (box_set (HSB.out _ HG2.out.1) ?_ _) ?_ _ <;> assumption),fun h=>noE (by kernel_rfl) h⟩ (fun hHeld=>?_);clear hK K;obtain ⟨hS,_⟩:=hHeld
      (try simp only [Act.put,List.setIfInBounds_toArray,List.set_cons_zero,List.set_cons_succ])
      refine wpAnyU_done (by kernel_rfl) ?_ _;go_wp2_with fail;go_ret;exact HDONE.out _ _ _ _ _ HG2.out.1 HG2.out.2.1 HG2.out.2.2.1 HG2.out.2.2.2
     refine AllReadyU.cons rfl (fun K hK=>?_) ?_
     rotate_left
     exact AllReadyU.nil
     go_simp
     refine hK.out _ _ ⟨(HSE.out _ (((Upd.refl _ _).drew.alloc _).alloc _)).1,fun _=>(HSE.out _ (((Upd.refl _ _).drew.alloc _).alloc _)).2⟩ (fun hHeld=>?_);clear hK K;obtain ⟨hS,hE⟩:=hHeld;have hE:=hE (by kernel_rfl)
     (try simp only [Act.put,List.setIfInBounds_toArray,List.set_cons_zero,List.set_cons_succ])
     refine wpAnyU_ready (rs:=[8]) (by kernel_rfl) (by simp) ?_;refine AllReadyU.cons rfl (fun K hK=>?_) ?_
     rotate_left
     exact AllReadyU.nil
     (refine step_append_lies _ (by rfl) (.tmp 64) (.tmp 66) 42 (by rfl) 0 77 tr _ 1 4 Tryz.underlying42 HIR.out.1 HIR.out.2.1 HIR.out.2.2.1 HIR.out.2.2.2 (by rfl) (by decide) (.slice ra refs.length rc) refs.length (flatRefs refs) (by rfl) (HRR.out _ (by repeat (first | exact Upd.refl _ _ | refine Upd.drew ?_ | refine Upd.alloc ?_ _))) ⟨_,0,none⟩ 1 1 [.int .u32 r] (by rfl) (by rfl) (World.news_of_block (cs:=#[.int .u32 r]) (t:=77) (fr:=(0,0)) (by first | exact HX1A.out | exact HX1B.out | exact HX1C.out)) HC1.out (by omega) (by unfold maxLen;omega) (by omega) (Nat.zero_le _) _ (by rfl) ?_;intro g1 cap1 w5 hown1 hgr1 hat1 hlt1;have HG1:=Lib.hid (And.intro (Upd.grown (S:=(Value.slice ra refs.length rc).ownBlock.toList++(Value.slice xa tabs.length xc).ownBlock.toList) (w:=w3) (by repeat (first | exact Upd.refl _ _ | refine Upd.drew ?_ | refine Upd.alloc ?_ _)) hgr1 (fun k hk=>.inl (by simp [hk]))) (And.intro (Upd.grown (S:=(Value.slice ra refs.length rc).ownBlock.toList) (w:=w3) (by repeat (first | exact Upd.refl _ _ | refine Upd.drew ?_ | refine Upd.alloc ?_ _)) hgr1 (fun k hk=>.inl (by simp [hk]))) (And.intro hown1 (app_at (w:=w3) (S:=[]) (by repeat (first | exact Upd.refl _ _ | refine Upd.drew ?_ | refine Upd.alloc ?_ _)) hat1))));have HGR1:=Lib.hid hgr1;obtain ⟨q2,q3,q0,q1⟩:=HS.out w5 HG1.out.1;obtain ⟨p2,p3',p0,p1⟩:=HS.out (w5.alloc (.cells #[.int .i64 n,.slice ta W tc] 122 (0,0))) (HG1.out.1.alloc _);clear hown1 hgr1 hat1 hlt1)
     refine hK.out _ _ ⟨(HSE.out _ HG1.out.1).1,fun _=>(HSE.out _ HG1.out.1).2⟩ (fun hHeld=>?_);clear hK K;obtain ⟨hS,hE⟩:=hHeld;have hE:=hE (by kernel_rfl)
     (try simp only [Act.put,List.setIfInBounds_toArray])
     refine wpAnyU_ready (rs:=[15]) (by kernel_rfl) (by simp) ?_;refine AllReadyU.cons rfl (fun K hK=>?_) ?_
     rotate_left
     exact AllReadyU.nil
     (refine step_append_lies _ (by rfl) (.tmp 71) (.tmp 73) 22 (by rfl) 0 122 tt _ 2 32 Tryz.underlying22 HIT.out.1 HIT.out.2.1 HIT.out.2.2.1 HIT.out.2.2.2 (by rfl) (by decide) (.slice xa tabs.length xc) tabs.length (flatTT tabs cs) (by rfl) (HRT.out _ (by repeat (first | exact HG1.out.2.1 | refine Upd.drew ?_ | refine Upd.alloc ?_ _))) ⟨_,0,none⟩ 1 1 [.int .i64 n,.slice ta W tc] (by rfl) (by rfl) (World.news_of_block (cs:=#[.int .i64 n,.slice ta W tc]) (t:=122) (fr:=(0,0)) (by first | exact heap_alloc_new _ _ | exact (HGR1.out.block _ (heap_lt HXB.out) (HNX.out _ (by omega))).trans HXB.out | exact (HGR1.out.block _ (heap_lt HXC.out) (HNX.out _ (by omega))).trans HXC.out)) HC2.out (by omega) (by unfold maxLen;omega) (by omega) (Nat.zero_le _) _ (by rfl) ?_;intro g2 cap2 w6 hown2 hgr2 hat2 hlt2;have HG2:=Lib.hid (And.intro (Upd.grown (S:=(Value.slice ra refs.length rc).ownBlock.toList++(Value.slice xa tabs.length xc).ownBlock.toList) (w:=w3) (by repeat (first | exact HG1.out.1 | refine Upd.drew ?_ | refine Upd.alloc ?_ _)) hgr2 (fun k hk=>.inl (by simp [hk]))) (And.intro (row_grow (by repeat (first | exact Upd.refl _ _ | refine Upd.drew ?_ | refine Upd.alloc ?_ _)) hgr2 HG1.out.2.2.1 (fun k hk hq=>ty_ne HG1.out.2.2.1 (HRT.out _ HG1.out.2.1) (by decide) hk hq)) (And.intro hown2 (And.intro HG1.out.2.2.2 (app_at (w:=w3) (S:=(Value.slice ra refs.length rc).ownBlock.toList++(Value.slice xa tabs.length xc).ownBlock.toList) (by repeat (first | exact HG1.out.1 | refine Upd.drew ?_ | refine Upd.alloc ?_ _)) hat2)))));obtain ⟨fz2,fz3,k2,k3⟩:=HFZ.out w6 HG2.out.1;clear hown2 hgr2 hat2 hlt2 HGR1 HG1)
     refine hK.out _ _ ⟨(HSE.out _ HG2.out.1).1,fun _=>(HSE.out _ HG2.out.1).2⟩ (fun hHeld=>?_);clear hK K;obtain ⟨hS,hE⟩:=hHeld;have hE:=hE (by kernel_rfl)
     (try simp only [Act.put])
     refine wpAnyU_takeS (i:=16) (v:=?v17) rfl (by kernel_rfl) (by kernel_rfl) (by kernel_rfl) (by kernel_rfl) (fun _ _ _ h=>h) (Or.inl ⟨by rfl,?hy17⟩) hS (fun _=>hE) ?rest17
     case hy17=>(intro x hSx;(try dsimp only at hSx);go_simp;try with_reducible rfl)
     (try simp only [Act.put])
     refine wpAnyU_takeS (i:=17) (v:=?v18) rfl (by kernel_rfl) (by kernel_rfl) (by kernel_rfl) (by kernel_rfl) (fun _ _ _ h=>h) (Or.inl ⟨by rfl,?hy18⟩) hS (fun _=>hE) ?rest18
     case hy18=>(intro x hSx;(try dsimp only at hSx);go_simp;try with_reducible rfl)
     (try simp only [Act.put])
     refine wpAnyU_ready (rs:=[18]) (by kernel_rfl) (by simp) ?_;refine AllReadyU.cons rfl (fun K hK=>?_) ?_
     rotate_left
     exact AllReadyU.nil
     go_simp
     refine hK.out _ _ ⟨(by refine box_set (HSB.out _ HG2.out.1) ?_ _;assumption),fun h=>noE (by kernel_rfl) h⟩ (fun hHeld=>?_);clear hK K;obtain ⟨hS,_⟩:=hHeld
     (try simp only [Act.put,List.setIfInBounds_toArray,List.set_cons_zero,List.set_cons_succ])
     refine wpAnyU_takeS (i:=19) (v:=?v20) rfl (by kernel_rfl) (by kernel_rfl) (by kernel_rfl) (by kernel_rfl) (fun _ _ _ h=>h) (Or.inl ⟨by rfl,?hy20⟩) hS (fun h=>noE (by kernel_rfl) h) ?rest20
     case hy20=>(intro x hSx;(try dsimp only at hSx);go_simp;try with_reducible rfl)
     (try simp only [Act.put,List.setIfInBounds_toArray])
     refine wpAnyU_takeS (i:=20) (v:=?v21) rfl (by kernel_rfl) (by kernel_rfl) (by kernel_rfl) (by kernel_rfl) (fun _ _ _ h=>h) (Or.inl ⟨by rfl,?hy21⟩) hS (fun h=>noE (by kernel_rfl) h) ?rest21
     case hy21=>(intro x hSx;(try dsimp only at hSx);go_simp;try with_reducible rfl)
     (try simp only [Act.put])
     refine wpAnyU_ready (rs:=[21]) (by kernel_rfl) (by simp) ?_;refine AllReadyU.cons rfl (fun K hK=>?_) ?_
     rotate_left
     exact AllReadyU.nil
     go_simp
     refine hK.out _ _ ⟨(by refine box_set (box_set (HSB.out _ HG2.out.1) ?_ _) ?_ _ <;> assumption),fun h=>noE (by kernel_rfl) h⟩ (fun hHeld=>?_);clear hK K;obtain ⟨hS,_⟩:=hHeld
     (try simp only [Act.put,List.setIfInBounds_toArray,List.set_cons_zero,List.set_cons_succ])
     refine wpAnyU_done (by kernel_rfl) ?_ _;go_wp2_with fail;go_ret;exact HDONE.out _ _ _ _ _ HG2.out.1 HG2.out.2.1 HG2.out.2.2.1 HG2.out.2.2.2
    refine AllReadyU.cons rfl (fun K hK=>?_) ?_
    rotate_left
    exact AllReadyU.nil
    go_simp
    refine hK.out _ _ ⟨(HSE.out _ ((Upd.refl _ _).drew.alloc _)).1,fun _=>(HSE.out _ ((Upd.refl _ _).drew.alloc _)).2⟩ (fun hHeld=>?_);clear hK K;obtain ⟨hS,hE⟩:=hHeld;have hE:=hE (by kernel_rfl)
    (try simp only [Act.put,List.setIfInBounds_toArray,List.set_cons_zero,List.set_cons_succ])
    refine wpAnyU_ready (rs:=[7]) (by kernel_rfl) (by simp) ?_;refine AllReadyU.cons rfl (fun K hK=>?_) ?_
    rotate_left
    exact AllReadyU.nil
    go_simp
    refine hK.out _ _ ⟨(HSE.out _ (((Upd.refl _ _).drew.alloc _).alloc _)).1,fun _=>(HSE.out _ (((Upd.refl _ _).drew.alloc _).alloc _)).2⟩ (fun hHeld=>?_);clear hK K;obtain ⟨hS,hE⟩:=hHeld;have hE:=hE (by kernel_rfl)
    (try simp only [Act.put,List.setIfInBounds_toArray,List.set_cons_zero,List.set_cons_succ])
    refine wpAnyU_ready (rs:=[8]) (by kernel_rfl) (by simp) ?_;refine AllReadyU.cons rfl (fun K hK=>?_) ?_
    rotate_left
    exact AllReadyU.nil
    (refine step_append_lies _ (by rfl) (.tmp 64) (.tmp 66) 42 (by rfl) 0 77 tr _ 1 4 Tryz.underlying42 HIR.out.1 HIR.out.2.1 HIR.out.2.2.1 HIR.out.2.2.2 (by rfl) (by decide) (.slice ra refs.length rc) refs.length (flatRefs refs) (by rfl) (HRR.out _ (by repeat (first | exact Upd.refl _ _ | refine Upd.drew ?_ | refine Upd.alloc ?_ _))) ⟨_,0,none⟩ 1 1 [.int .u32 r] (by rfl) (by rfl) (World.news_of_block (cs:=#[.int .u32 r]) (t:=77) (fr:=(0,0)) (by first | exact HX1A.out | exact HX1B.out | exact HX1C.out)) HC1.out (by omega) (by unfold maxLen;omega) (by omega) (Nat.zero_le _) _ (by rfl) ?_;intro g1 cap1 w5 hown1 hgr1 hat1 hlt1;have HG1:=Lib.hid (And.intro (Upd.grown (S:=(Value.slice ra refs.length rc).ownBlock.toList++(Value.slice xa tabs.length xc).ownBlock.toList) (w:=w3) (by repeat (first | exact Upd.refl _ _ | refine Upd.drew ?_ | refine Upd.alloc ?_ _)) hgr1 (fun k hk=>.inl (by simp [hk]))) (And.intro (Upd.grown (S:=(Value.slice ra refs.length rc).ownBlock.toList) (w:=w3) (by repeat (first | exact Upd.refl _ _ | refine Upd.drew ?_ | refine Upd.alloc ?_ _)) hgr1 (fun k hk=>.inl (by simp [hk]))) (And.intro hown1 (app_at (w:=w3) (S:=[]) (by repeat (first | exact Upd.refl _ _ | refine Upd.drew ?_ | refine Upd.alloc ?_ _)) hat1))));have HGR1:=Lib.hid hgr1;obtain ⟨q2,q3,q0,q1⟩:=HS.out w5 HG1.out.1;obtain ⟨p2,p3',p0,p1⟩:=HS.out (w5.alloc (.cells #[.int .i64 n,.slice ta W tc] 122 (0,0))) (HG1.out.1.alloc _);clear hown1 hgr1 hat1 hlt1)
    refine hK.out _ _ ⟨(HSE.out _ HG1.out.1).1,fun _=>(HSE.out _ HG1.out.1).2⟩ (fun hHeld=>?_);clear hK K;obtain ⟨hS,hE⟩:=hHeld;have hE:=hE (by kernel_rfl)
    (try simp only [Act.put,List.setIfInBounds_toArray])
    refine wpAnyU_ready (rs:=[15]) (by kernel_rfl) (by simp) ?_;refine AllReadyU.cons rfl (fun K hK=>?_) ?_
    rotate_left
    exact AllReadyU.nil
    (refine step_append_lies _ (by rfl) (.tmp 71) (.tmp 73) 22 (by rfl) 0 122 tt _ 2 32 Tryz.underlying22 HIT.out.1 HIT.out.2.1 HIT.out.2.2.1 HIT.out.2.2.2 (by rfl) (by decide) (.slice xa tabs.length xc) tabs.length (flatTT tabs cs) (by rfl) (HRT.out _ (by repeat (first | exact HG1.out.2.1 | refine Upd.drew ?_ | refine Upd.alloc ?_ _))) ⟨_,0,none⟩ 1 1 [.int .i64 n,.slice ta W tc] (by rfl) (by rfl) (World.news_of_block (cs:=#[.int .i64 n,.slice ta W tc]) (t:=122) (fr:=(0,0)) (by first | exact heap_alloc_new _ _ | exact (HGR1.out.block _ (heap_lt HXB.out) (HNX.out _ (by omega))).trans HXB.out | exact (HGR1.out.block _ (heap_lt HXC.out) (HNX.out _ (by omega))).trans HXC.out)) HC2.out (by omega) (by unfold maxLen;omega) (by omega) (Nat.zero_le _) _ (by rfl) ?_;intro g2 cap2 w6 hown2 hgr2 hat2 hlt2;have HG2:=Lib.hid (And.intro (Upd.grown (S:=(Value.slice ra refs.length rc).ownBlock.toList++(Value.slice xa tabs.length xc).ownBlock.toList) (w:=w3) (by repeat (first | exact HG1.out.1 | refine Upd.drew ?_ | refine Upd.alloc ?_ _)) hgr2 (fun k hk=>.inl (by simp [hk]))) (And.intro (row_grow (by repeat (first | exact Upd.refl _ _ | refine Upd.drew ?_ | refine Upd.alloc ?_ _)) hgr2 HG1.out.2.2.1 (fun k hk hq=>ty_ne HG1.out.2.2.1 (HRT.out _ HG1.out.2.1) (by decide) hk hq)) (And.intro hown2 (And.intro HG1.out.2.2.2 (app_at (w:=w3) (S:=(Value.slice ra refs.length rc).ownBlock.toList++(Value.slice xa tabs.length xc).ownBlock.toList) (by repeat (first | exact HG1.out.1 | refine Upd.drew ?_ | refine Upd.alloc ?_ _)) hat2)))));obtain ⟨fz2,fz3,k2,k3⟩:=HFZ.out w6 HG2.out.1;clear hown2 hgr2 hat2 hlt2 HGR1 HG1)
    refine hK.out _ _ ⟨(HSE.out _ HG2.out.1).1,fun _=>(HSE.out _ HG2.out.1).2⟩ (fun hHeld=>?_);clear hK K;obtain ⟨hS,hE⟩:=hHeld;have hE:=hE (by kernel_rfl)
    (try simp only [Act.put])
    refine wpAnyU_takeS (i:=16) (v:=?v22) rfl (by kernel_rfl) (by kernel_rfl) (by kernel_rfl) (by kernel_rfl) (fun _ _ _ h=>h) (Or.inl ⟨by rfl,?hy22⟩) hS (fun _=>hE) ?rest22
    case hy22=>(intro x hSx;(try dsimp only at hSx);go_simp;try with_reducible rfl)
    (try simp only [Act.put])
    refine wpAnyU_takeS (i:=17) (v:=?v23) rfl (by kernel_rfl) (by kernel_rfl) (by kernel_rfl) (by kernel_rfl) (fun _ _ _ h=>h) (Or.inl ⟨by rfl,?hy23⟩) hS (fun _=>hE) ?rest23
    case hy23=>(intro x hSx;(try dsimp only at hSx);go_simp;try with_reducible rfl)
    (try simp only [Act.put])
    refine wpAnyU_ready (rs:=[18]) (by kernel_rfl) (by simp) ?_;refine AllReadyU.cons rfl (fun K hK=>?_) ?_
    rotate_left
    exact AllReadyU.nil
    go_simp
    refine hK.out _ _ ⟨(by refine box_set (HSB.out _ HG2.out.1) ?_ _;assumption),fun h=>noE (by kernel_rfl) h⟩ (fun hHeld=>?_);clear hK K;obtain ⟨hS,_⟩:=hHeld
    (try simp only [Act.put,List.setIfInBounds_toArray,List.set_cons_zero,List.set_cons_succ])
    refine wpAnyU_takeS (i:=19) (v:=?v25) rfl (by kernel_rfl) (by kernel_rfl) (by kernel_rfl) (by kernel_rfl) (fun _ _ _ h=>h) (Or.inl ⟨by rfl,?hy25⟩) hS (fun h=>noE (by kernel_rfl) h) ?rest25
    case hy25=>(intro x hSx;(try dsimp only at hSx);go_simp;try with_reducible rfl)
    (try simp only [Act.put,List.setIfInBounds_toArray])
    refine wpAnyU_takeS (i:=20) (v:=?v26) rfl (by kernel_rfl) (by kernel_rfl) (by kernel_rfl) (by kernel_rfl) (fun _ _ _ h=>h) (Or.inl ⟨by rfl,?hy26⟩) hS (fun h=>noE (by kernel_rfl) h) ?rest26
    case hy26=>(intro x hSx;(try dsimp only at hSx);go_simp;try with_reducible rfl)
    (try simp only [Act.put])
    refine wpAnyU_ready (rs:=[21]) (by kernel_rfl) (by simp) ?_;refine AllReadyU.cons rfl (fun K hK=>?_) ?_
    rotate_left
    exact AllReadyU.nil
    go_simp
    refine hK.out _ _ ⟨(by refine box_set (box_set (HSB.out _ HG2.out.1) ?_ _) ?_ _ <;> assumption),fun h=>noE (by kernel_rfl) h⟩ (fun hHeld=>?_);clear hK K;obtain ⟨hS,_⟩:=hHeld
    (try simp only [Act.put,List.setIfInBounds_toArray,List.set_cons_zero,List.set_cons_succ])
    refine wpAnyU_done (by kernel_rfl) ?_ _;go_wp2_with fail;go_ret;exact HDONE.out _ _ _ _ _ HG2.out.1 HG2.out.2.1 HG2.out.2.2.1 HG2.out.2.2.2
end Go.Proofs.YtfkopmhpppeheaaGreat
