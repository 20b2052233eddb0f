import Derived.Test.YtdackeldhdchaaaGreatPW31
import Derived.Test.YtdackeldhdchaaaGreatPW26
import Derived.Test.YtdackeldhdchaaaGreatPW16
import Derived.Test.YtdackeldhdchaaaGreatPW29
import Derived.Test.YtdackeldhdchaaaGreatPW25
import Derived.Test.YtdackeldhdchaaaGreatPW7
import Derived.Test.YtdackeldhdchaaaGreatPW8
import Derived.WalkKit
import Derived.ProofKit
import Derived.OpenShut
import Derived.ShutString
import Derived.ChangeOld
import Derived.ChangeSlices
import Derived.Below
set_option maxRecDepth 100000
set_option maxHeartbeats 6400000
namespace Go.Proofs.YtdackeldhdchaaaGreat
open Go.RowKit Go.Maps Go.ChangeMaps Go.WideShapes
structure PS (w:World) (n0 a b m n:Nat) (rv tv:Value) (M:MV) (refs:List Nat) (tabs:List TV):Prop where
 ex:∃ (K:KV) (F:List Nat) (p:aaE),PIn w n0 a b m rv tv K F M p refs tabs/\afB K M refs tabs/\aiE K refs/\K.vars=n
theorem PS.keep0 {w w':World} {n0 a b m n:Nat} {rv tv:Value} {M:MV} {refs:List Nat} {tabs:List TV} (h:PS w n0 a b m n rv tv M refs tabs) (u:Upd [] w w'):PS w' n0 a b m n rv tv M refs tabs:=by
 obtain ⟨K,F,p,h1,h2,h3,h4⟩:=h.ex;exact ⟨K,F,p,h1.keep0 u,h2,h3,h4⟩
structure aoH (b:Nat) (l:Int) (K:KV) (F:List Nat) (M:MV) (w0:World) (s5 s6:Value) (wc:World):Prop where
 ex:∃ (B:Nat) (K':KV) (F':List Nat),s5=.pointer (some ⟨B,0,none⟩)/\s6=.int .i64 (M.exchE l)/\wc.heap[B]?=some (.cells #[.int .i64 (M.tryV l).1,.int .i64 (M.tryV l).2.1,.int .i64 (M.tryV l).2.2] 46 (0,0))/\aa0 wc b K' F'/\KM K' (M.exch l)/\adM K K'/\Stp F w0 F' wc/\w0.heap.size<=B
theorem aoH.of1 {b:Nat} {l:Int} {K K':KV} {F F':List Nat} {M:MV} {w0 w1:World} (h1:aa0 w1 b K' F') (h2:KM K' (M.exch l)) (h3:adM K K') (h4:Stp F w0.drew F' w1) :
  aoH b l K F M w0 (.pointer (some ⟨w1.heap.size,0,none⟩)) (.int .i64 (M.exchE l)) (w1.alloc (.cells #[.int .i64 (M.tryV l).1,.int .i64 (M.tryV l).2.1,.int .i64 (M.tryV l).2.2] 46 (0,0))) :=
 ⟨_,K',F',rfl,rfl,heap_alloc_new _ _,h1.upd ((Upd.refl [] _).alloc _) (by simp),h2,h3,⟨((Upd.refl F w0).drew.trans h4.up).alloc _,h4.sub⟩,((Upd.refl F w0).drew.trans h4.up).size⟩
theorem aoH.of2 {b:Nat} {l:Int} {K K':KV} {F F':List Nat} {M:MV} {w0 w1:World} {o:Obj} (hb:w1.heap[w0.heap.size]?=some (.cells #[.int .i64 0,.int .i64 0,.int .i64 0] 46 (0,0))) (h1:aa0 w1 b K' F') (h2:KM K' (M.exch l)) (h3:adM K K') (h4:Stp F (w0.drew.alloc o) F' w1) (hF:∀ k,w0.heap.size<=k->k∉F) :
  aoH b l K F M w0 (.pointer (some ⟨w0.heap.size,0,none⟩)) (.int .i64 (M.exchE l)) (((w1.setCell ⟨w0.heap.size,0,none⟩ (.int .i64 (M.tryV l).1)).setCell ⟨w0.heap.size,1,none⟩ (.int .i64 (M.tryV l).2.1)).setCell ⟨w0.heap.size,2,none⟩ (.int .i64 (M.tryV l).2.2)):=by
 have hu:Upd F w0 w1:=((Upd.refl F w0).drew.alloc o).trans h4.up;have hsz:(w0.drew.alloc o).heap.size=w0.heap.size+1:=World.size_alloc _ _
 have hs:∀ k,k∈F'->k∈F\/w0.heap.size+1<=k:=fun k hk=>by rw [<- hsz];exact h4.sub k hk
 have hn:w0.heap.size∉F':=fun hm=>by
  rcases hs _ hm with h | h
  ·exact hF _ (Nat.le_refl _) h
  ·omega
 have u5:Upd [w0.heap.size] w1 (((w1.setCell ⟨w0.heap.size,0,none⟩ (.int .i64 (M.tryV l).1)).setCell ⟨w0.heap.size,1,none⟩ (.int .i64 (M.tryV l).2.1)).setCell ⟨w0.heap.size,2,none⟩ (.int .i64 (M.tryV l).2.2)) :=
  (((Upd.refl _ _).setCell (p:=⟨w0.heap.size,0,none⟩) (.inl (by simp)) _).setCell (p:=⟨w0.heap.size,1,none⟩) (.inl (by simp)) _).setCell (p:=⟨w0.heap.size,2,none⟩) (.inl (by simp)) _
 exact ⟨_,K',F',rfl,rfl,aat (j:=2) (aat (j:=1) (aat (j:=0) hb _) _) _,h1.upd u5 (fun k hk hm=>by simp at hm;subst hm;exact hn hk),h2,h3,
  ⟨ag0 hu (Nat.le_refl _),fun k hk=>(hs k hk).imp id fun h=>by omega⟩,Nat.le_refl _⟩
structure ajH (m:Nat) (l:Int) (M:MV) (p:aaE) (Z:List Nat) (w0:World) (s7 s8:Value) (wc:World):Prop where
 ex:∃ B:Nat,s7=.pointer (some ⟨B,0,none⟩)/\s8=.int .i64 (M.exchE l)/\wc.heap[B]?=some (.cells #[.int .i64 (M.tryV l).1,.int .i64 (M.tryV l).2.1,.int .i64 (M.tryV l).2.2] 129 (0,0))/\abn m p Z (M.exch l) w0 wc/\w0.heap.size<=B
theorem ajH.of1 {m:Nat} {l:Int} {M:MV} {p:aaE} {Z:List Nat} {w0 w1:World} (h:abn m p Z (M.exch l) w0.drew w1) :
  ajH m l M p Z w0 (.pointer (some ⟨w1.heap.size,0,none⟩)) (.int .i64 (M.exchE l)) (w1.alloc (.cells #[.int .i64 (M.tryV l).1,.int .i64 (M.tryV l).2.1,.int .i64 (M.tryV l).2.2] 129 (0,0))):=by
 refine ⟨_,rfl,rfl,heap_alloc_new _ _,(abn.pre (Upd.refl [] w0).drew h).post ((Upd.refl [] _).alloc _),?_⟩;obtain ⟨_,_,u,_⟩:=h.ex;exact u.size
theorem ajH.of2 {m:Nat} {l:Int} {M:MV} {p:aaE} {Z:List Nat} {w0 w1:World} {o:Obj} (hb:w1.heap[w0.heap.size]?=some (.cells #[.int .i64 0,.int .i64 0,.int .i64 0] 129 (0,0))) (h:abn m p Z (M.exch l) (w0.drew.alloc o) w1) :
  ajH m l M p Z w0 (.pointer (some ⟨w0.heap.size,0,none⟩)) (.int .i64 (M.exchE l)) (((w1.setCell ⟨w0.heap.size,0,none⟩ (.int .i64 (M.tryV l).1)).setCell ⟨w0.heap.size,1,none⟩ (.int .i64 (M.tryV l).2.1)).setCell ⟨w0.heap.size,2,none⟩ (.int .i64 (M.tryV l).2.2)):=by
 have u5:Upd [w0.heap.size] w1 (((w1.setCell ⟨w0.heap.size,0,none⟩ (.int .i64 (M.tryV l).1)).setCell ⟨w0.heap.size,1,none⟩ (.int .i64 (M.tryV l).2.1)).setCell ⟨w0.heap.size,2,none⟩ (.int .i64 (M.tryV l).2.2)) :=
  (((Upd.refl _ _).setCell (p:=⟨w0.heap.size,0,none⟩) (.inl (by simp)) _).setCell (p:=⟨w0.heap.size,1,none⟩) (.inl (by simp)) _).setCell (p:=⟨w0.heap.size,2,none⟩) (.inl (by simp)) _
 exact ⟨_,rfl,rfl,aat (j:=2) (aat (j:=1) (aat (j:=0) hb _) _) _,(abn.pre ((Upd.refl [] w0).drew.alloc o) h).boxC hb u5 (Nat.le_refl _) (by decide) (by decide) (by decide) (fun j n=>by rcases j with _ | _ | _ | j <;> simp),Nat.le_refl _⟩
theorem apm {w:World} {g:Nat} {t:TypeId} {c:Int × Int × Int} (h:w.heap[g]?=some (.cells #[.int .i64 c.1,.int .i64 c.2.1,.int .i64 c.2.2] t (0,0))):w.ownsRow 0 t 3 (.slice (some ⟨g,0,none⟩) 1 1) [c].length (abY [c]) :=
 ⟨rfl,.inr ⟨g,1,_,rfl,Nat.zero_le _,h,Nat.le_refl _,by unfold maxLen;omega,rfl,rfl⟩⟩
structure awr (n0 a b m n:Nat) (rv tv:Value) (M':MV) (refs:List Nat) (tabs:List TV) (w:World) (e:Ending) (w':World):Prop where
 en:e=.returned (.bool true)
 ps:PS w' n0 a b m n rv tv M' refs tabs
 fr:Fro n0 w w'
theorem alV (n0 a b m n:Nat) (rv tv:Value) (M:MV) (refs:List Nat) (tabs:List TV) (l:Int) (oa:Option Addr) (on oc:Nat) (w:World) (h:PS w n0 a b m n rv tv M refs tabs) (ht:M.trail.length<=900000) :
  Calls Tryz.prog 16 #[.pointer (some ⟨a,0,none⟩),.agg #[.int .i64 1,.int .i64 l,.slice oa on oc]] w fun e w'=>awr n0 a b m n rv tv (M.exch l) refs tabs w e w':=by
 obtain ⟨K,F,p,hP,hL,hC,hvn⟩:=h.ex;have hb0:=heap_alloc_new w (.cells #[.int .i64 1,.int .i64 l,.slice oa on oc] 34 (0,0));have hu0:Upd [] w (w.alloc (.cells #[.int .i64 1,.int .i64 l,.slice oa on oc] 34 (0,0))):=(Upd.refl _ _).alloc _;obtain ⟨w0,hw0⟩ : ∃ w0,w.alloc (.cells #[.int .i64 1,.int .i64 l,.slice oa on oc] 34 (0,0))=w0:=⟨_,rfl⟩;rw [hw0] at hb0 hu0;have HW0:=Lib.hid hw0;have HU0:=Lib.hid hu0;have HP:=Lib.hid (And.intro hP (And.intro hL (And.intro hC hvn)))
 have HTK:Hid (∀ z,Upd [] w z->Calls Tryz.prog 18 #[.pointer (some ⟨b,0,none⟩),.int .i64 l] z fun e w'=>aAU b l K F M z e w'):=fun z u=>ajB b l K F M z (hP.mem.ker.upd u (by simp)) hL.km (by omega)
 have HNB:Hid (∀ k,w0.heap.size<=k->k∉F):=fun k hk hm=>by have h1:=hP.mem.ker.lt k hm;have h2:=hu0.size;omega
 obtain ⟨a0,a1,_,_⟩:=hP.cells;have HBL:=Lib.hid hb0
 have alW:Hid (∀ z,Upd F w0 z->z.cell? ⟨a,0,none⟩=some (.pointer (some ⟨b,0,none⟩))/\z.cell? ⟨w.heap.size,1,none⟩=some (.int .i64 l)):=fun z u =>
  ⟨((hu0.mono (by simp):Upd F w w0).trans u).cell (aak hP.blk) hP.na.1 |>.trans a0,aab ((u.block _ (aak hb0) (fun hm=>by have:=hP.mem.ker.lt _ hm;omega)).trans hb0) rfl⟩
 have x2:w0.cell? ⟨w.heap.size,0,none⟩=some (.int .i64 1):=aab hb0 rfl;clear h hP hL hC hvn hb0 hu0 hw0 a0 a1
 go_enter Tryz.func16,Tryz.ntmps16
 go_wp2_with fail;rw [HW0.out];go_upto_region 3 with fail
 go_cut [5,6] from 31 to 40 (fun s5 s6 wc=>aoH b l K F M w0 s5 s6 wc)
 case first =>
  refine aa9 (fun z=>z.cell? ⟨a,0,none⟩=some (.pointer (some ⟨b,0,none⟩))/\z.cell? ⟨w.heap.size,1,none⟩=some (.int .i64 l)) (fun _=>True) [] (by kernel_rfl) ?_;have hS:=alW.out _ (Upd.refl F _).drew;have hE:True:=trivial;refine tkS 0 rfl hS (fun _=>hE) ?_;refine tkS 1 rfl hS (fun _=>hE) ?_;refine tkS 2 rfl hS (fun _=>hE) ?_;refine tkS 3 rfl hS (fun _=>hE) ?_;refine tkS 4 rfl hS (fun _=>hE) ?_;refine tkS 5 rfl hS (fun _=>hE) ?_;refine aao (rs:=[6,10]) (by kernel_rfl) (by simp) ?_;refine aaf.cons rfl (fun Kx hK=>?_) ?_
  ·
   go_simp
   refine (HTK.out _ (HU0.out.trans (Upd.refl [] w0).drew)).mono ?_;rintro e w1 hE1;obtain ⟨K',F',rfl,hK1,hM1,hS1,hT1⟩:=hE1.ex;have HY:=Lib.hid (And.intro hK1 (And.intro hM1 (And.intro hS1 hT1)));have HU1:Hid (Upd F w0 w1):=(((Upd.refl [] w0).drew).mono (by simp):Upd F _ _).trans hT1.up;unfold chV;clear hE1 hK1 hM1 hS1 hT1;go_wp2_with fail;refine hK.out _ _ ⟨alW.out _ HU1.out,fun _=>trivial⟩ (fun hHeld=>?_);clear hK Kx;obtain ⟨hS,hE⟩:=hHeld;have hE:=hE (by kernel_rfl)
   (try simp only [Act.put,List.setIfInBounds_toArray,List.set_cons_zero,List.set_cons_succ])
   refine tkS 7 rfl hS (fun _=>hE) ?_;refine tkS 8 rfl hS (fun _=>hE) ?_;refine tkS 9 rfl hS (fun _=>hE) ?_;refine aao (rs:=[10]) (by kernel_rfl) (by simp) ?_;refine aaf.cons rfl (fun Kx hK=>?_) ?_
   rotate_left
   exact aaf.nil
   go_simp
   refine hK.out _ _ ⟨alW.out _ (HU1.out.alloc _),fun _=>trivial⟩ (fun hHeld=>?_);clear hK Kx;obtain ⟨hS,hE⟩:=hHeld;have hE:=hE (by kernel_rfl)
   (try simp only [Act.put,List.setIfInBounds_toArray,List.set_cons_zero,List.set_cons_succ])
   refine aao (rs:=[11]) (by kernel_rfl) (by simp) ?_;refine aaf.cons rfl (fun Kx hK=>?_) ?_
   rotate_left
   exact aaf.nil
   go_simp
   refine hK.out _ _ ⟨alW.out _ (HU1.out.alloc _),fun _=>trivial⟩ (fun hHeld=>?_);clear hK Kx;obtain ⟨hS,hE⟩:=hHeld;have hE:=hE (by kernel_rfl)
   (try simp only [Act.put,List.setIfInBounds_toArray,List.set_cons_zero,List.set_cons_succ])
   refine tkS 12 rfl hS (fun _=>hE) ?_;refine aa1 (by kernel_rfl) ?_ _;clear hS hE
   (try go_simp)
   go_wp2_with fail;go_meet;exact aoH.of1 HY.out.1 HY.out.2.1 HY.out.2.2.1 HY.out.2.2.2
  refine aaf.cons rfl (fun Kx hK=>?_) ?_
  rotate_left
  exact aaf.nil
  go_simp
  refine hK.out _ _ ⟨alW.out _ ((Upd.refl F w0).drew.alloc _),fun _=>trivial⟩ (fun hHeld=>?_);clear hK Kx;obtain ⟨hS,hE⟩:=hHeld;have hE:=hE (by kernel_rfl)
  (try simp only [Act.put,List.setIfInBounds_toArray,List.set_cons_zero,List.set_cons_succ])
  refine aao (rs:=[6]) (by kernel_rfl) (by simp) ?_;refine aaf.cons rfl (fun Kx hK=>?_) ?_
  rotate_left
  exact aaf.nil
  go_simp
  refine (HTK.out _ (HU0.out.trans ((Upd.refl [] w0).drew.alloc (.cells #[.int .i64 0,.int .i64 0,.int .i64 0] 46 (0,0))))).mono ?_;rintro e w1 hE1;obtain ⟨K',F',rfl,hK1,hM1,hS1,hT1⟩:=hE1.ex;have HY:=Lib.hid (And.intro hK1 (And.intro hM1 (And.intro hS1 hT1)));have HU1:Hid (Upd F w0 w1):=((((Upd.refl [] w0).drew.alloc (.cells #[.int .i64 0,.int .i64 0,.int .i64 0] 46 (0,0)))).mono (by simp):Upd F _ _).trans hT1.up;unfold chV;clear hE1 hK1 hM1 hS1 hT1;have hbx:=(HY.out.2.2.2.up.block w0.heap.size (by rw [World.size_alloc];show w0.heap.size<w0.heap.size+1;omega) (HNB.out _ (Nat.le_refl _))).trans (heap_alloc_new w0.drew (.cells #[.int .i64 0,.int .i64 0,.int .i64 0] 46 (0,0)));have HBX:=Lib.hid hbx;obtain ⟨⟨s0,s1,s2,g0,g1,g2⟩,⟨s3,g3⟩,⟨s4,g4⟩,z0,z1,z2⟩:=ch3 hbx (.int .i64 (M.tryV l).1) (.int .i64 (M.tryV l).2.1) (.int .i64 (M.tryV l).2.2);clear hbx;go_wp2_with fail;refine hK.out _ _ ⟨alW.out _ HU1.out,fun _=>trivial⟩ (fun hHeld=>?_);clear hK Kx;obtain ⟨hS,hE⟩:=hHeld;have hE:=hE (by kernel_rfl)
  (try simp only [Act.put,List.setIfInBounds_toArray,List.set_cons_zero,List.set_cons_succ])
  refine tkS 7 rfl hS (fun _=>hE) ?_;refine tkS 8 rfl hS (fun _=>hE) ?_;refine tkS 9 rfl hS (fun _=>hE) ?_;refine aao (rs:=[11]) (by kernel_rfl) (by simp) ?_;refine aaf.cons rfl (fun Kx hK=>?_) ?_
  rotate_left
  exact aaf.nil
  go_simp
  refine hK.out _ _ ⟨alW.out _ (ag0 HU1.out (Nat.le_refl _)),fun _=>trivial⟩ (fun hHeld=>?_);clear hK Kx;obtain ⟨hS,hE⟩:=hHeld;have hE:=hE (by kernel_rfl)
  (try simp only [Act.put,List.setIfInBounds_toArray,List.set_cons_zero,List.set_cons_succ])
  refine tkS 12 rfl hS (fun _=>hE) ?_;refine aa1 (by kernel_rfl) ?_ _;clear hS hE
  (try go_simp)
  go_wp2_with fail;go_meet;exact aoH.of2 HBX.out HY.out.1 HY.out.2.1 HY.out.2.2.1 HY.out.2.2.2 HNB.out
 case rest =>
  obtain ⟨B,K',F',rfl,rfl,hbB,hK',hM',hS',hst,hBl⟩:=hcut.ex;clear hcut;generalize wc=w2 at *;obtain ⟨hP1,hF1⟩:=(HP.out.1.keep0 HU0.out).kernel hK' hst.up hst.sub;have HP1:=Lib.hid (And.intro hP1 (And.intro hF1 (And.intro hM' (And.intro hS' hst))));have HBB:=Lib.hid (And.intro hbB hBl)
  have HNP:Hid (∀ k,w2.heap.size<=k->k∉p.all m):=fun k hk hm=>by have h1:=hP1.mem.z k (List.mem_append.2 (.inr hm));omega
  have HDT:Hid (∀ z,Upd [] w2 z->Calls Tryz.prog 58 #[.pointer (some ⟨m,0,none⟩),.int .i64 l] z fun e w'=>as4 m l M p (F'++p.all m) z e w'):=fun z u =>
   aid m l M p _ z (hP1.mem.mod.keep0 u) (fun k hk=>Nat.lt_of_lt_of_le (hP1.mem.z k hk) u.size) HP.out.2.1.km.fit (HP.out.2.1.km.len HP.out.1.mem.ker.ok) (by omega)
  have anp:Hid (∀ z,Upd (p.all m) w2 z->z.cell? ⟨a,1,none⟩=some (.pointer (some ⟨m,0,none⟩))/\z.cell? ⟨w.heap.size,1,none⟩=some (.int .i64 l)):=fun z u=>by
   obtain ⟨_,c1,_,_⟩:=hP1.cells;refine ⟨(u.cell (aak hP1.blk) hP1.na.2).trans c1,?_⟩;have h1:=(alW.out w2 hst.up).2
   exact (u.cell (World.block_lt_of_cell? _ _ h1) (fun hm=>by
    have h2:=HP.out.1.mem.z _ (List.mem_append.2 (.inr hm));exact absurd h2 (Nat.lt_irrefl _))).trans h1
  clear hbB hK' hM' hS' hst hBl hP1 hF1 HTK alW x2;go_upto_region 4 with fail
  go_cut [7,8] from 41 to 50 (fun s7 s8 wc=>ajH m l M p (F'++p.all m) w2 s7 s8 wc)
  case first =>
   refine aa9 (fun z=>z.cell? ⟨a,1,none⟩=some (.pointer (some ⟨m,0,none⟩))/\z.cell? ⟨w.heap.size,1,none⟩=some (.int .i64 l)) (fun _=>True) [] (by kernel_rfl) ?_;have hS:=anp.out _ (Upd.refl (p.all m) _).drew;have hE:True:=trivial;refine tkS 0 rfl hS (fun _=>hE) ?_;refine tkS 1 rfl hS (fun _=>hE) ?_;refine tkS 2 rfl hS (fun _=>hE) ?_;refine tkS 3 rfl hS (fun _=>hE) ?_;refine tkS 4 rfl hS (fun _=>hE) ?_;refine tkS 5 rfl hS (fun _=>hE) ?_;refine aao (rs:=[6,10]) (by kernel_rfl) (by simp) ?_;refine aaf.cons rfl (fun Kx hK=>?_) ?_
   ·
    go_simp
    refine (HDT.out _ (Upd.refl [] w2).drew).mono ?_;rintro e w1 hE1;obtain ⟨rfl,hM1⟩:=hE1.ex;have HY:=Lib.hid hM1
    have HU1:Hid (Upd (p.all m) w2 w1):=by obtain ⟨_,_,u,_⟩:=hM1.ex;exact (((Upd.refl [] w2).drew).mono (by simp):Upd (p.all m) _ _).trans u
    unfold chV;clear hE1 hM1;go_wp2_with fail;refine hK.out _ _ ⟨anp.out _ HU1.out,fun _=>trivial⟩ (fun hHeld=>?_);clear hK Kx;obtain ⟨hS,hE⟩:=hHeld;have hE:=hE (by kernel_rfl)
    (try simp only [Act.put,List.setIfInBounds_toArray,List.set_cons_zero,List.set_cons_succ])
    refine tkS 7 rfl hS (fun _=>hE) ?_;refine tkS 8 rfl hS (fun _=>hE) ?_;refine tkS 9 rfl hS (fun _=>hE) ?_;refine aao (rs:=[10]) (by kernel_rfl) (by simp) ?_;refine aaf.cons rfl (fun Kx hK=>?_) ?_
    rotate_left
    exact aaf.nil
    go_simp
    refine hK.out _ _ ⟨anp.out _ (HU1.out.alloc _),fun _=>trivial⟩ (fun hHeld=>?_);clear hK Kx;obtain ⟨hS,hE⟩:=hHeld;have hE:=hE (by kernel_rfl)
    (try simp only [Act.put,List.setIfInBounds_toArray,List.set_cons_zero,List.set_cons_succ])
    refine aao (rs:=[11]) (by kernel_rfl) (by simp) ?_;refine aaf.cons rfl (fun Kx hK=>?_) ?_
    rotate_left
    exact aaf.nil
    go_simp
    refine hK.out _ _ ⟨anp.out _ (HU1.out.alloc _),fun _=>trivial⟩ (fun hHeld=>?_);clear hK Kx;obtain ⟨hS,hE⟩:=hHeld;have hE:=hE (by kernel_rfl)
    (try simp only [Act.put,List.setIfInBounds_toArray,List.set_cons_zero,List.set_cons_succ])
    refine tkS 12 rfl hS (fun _=>hE) ?_;refine aa1 (by kernel_rfl) ?_ _;clear hS hE
    (try go_simp)
    go_wp2_with fail;go_meet;exact ajH.of1 HY.out
   refine aaf.cons rfl (fun Kx hK=>?_) ?_
   rotate_left
   exact aaf.nil
   go_simp
   refine hK.out _ _ ⟨anp.out _ ((Upd.refl (p.all m) w2).drew.alloc _),fun _=>trivial⟩ (fun hHeld=>?_);clear hK Kx;obtain ⟨hS,hE⟩:=hHeld;have hE:=hE (by kernel_rfl)
   (try simp only [Act.put,List.setIfInBounds_toArray,List.set_cons_zero,List.set_cons_succ])
   refine aao (rs:=[6]) (by kernel_rfl) (by simp) ?_;refine aaf.cons rfl (fun Kx hK=>?_) ?_
   rotate_left
   exact aaf.nil
   go_simp
   refine (HDT.out _ ((Upd.refl [] w2).drew.alloc (.cells #[.int .i64 0,.int .i64 0,.int .i64 0] 129 (0,0)))).mono ?_;rintro e w1 hE1;obtain ⟨rfl,hM1⟩:=hE1.ex;have HY:=Lib.hid hM1
   have HU1:Hid (Upd (p.all m) w2 w1):=by obtain ⟨_,_,u,_⟩:=hM1.ex;exact ((((Upd.refl [] w2).drew.alloc (.cells #[.int .i64 0,.int .i64 0,.int .i64 0] 129 (0,0)))).mono (by simp):Upd (p.all m) _ _).trans u
   unfold chV;clear hE1 hM1
   have hbx:w1.heap[w2.heap.size]?=some (.cells #[.int .i64 0,.int .i64 0,.int .i64 0] 129 (0,0)):=by
    obtain ⟨_,_,u,_⟩:=HY.out.ex;exact (u.block w2.heap.size (by rw [World.size_alloc];show w2.heap.size<w2.heap.size+1;omega) (HNP.out _ (Nat.le_refl _))).trans (heap_alloc_new w2.drew (.cells #[.int .i64 0,.int .i64 0,.int .i64 0] 129 (0,0)))
   have HBX:=Lib.hid hbx;obtain ⟨⟨s0,s1,s2,g0,g1,g2⟩,⟨s3,g3⟩,⟨s4,g4⟩,z0,z1,z2⟩:=ch3 hbx (.int .i64 (M.tryV l).1) (.int .i64 (M.tryV l).2.1) (.int .i64 (M.tryV l).2.2);clear hbx;go_wp2_with fail;refine hK.out _ _ ⟨anp.out _ HU1.out,fun _=>trivial⟩ (fun hHeld=>?_);clear hK Kx;obtain ⟨hS,hE⟩:=hHeld;have hE:=hE (by kernel_rfl)
   (try simp only [Act.put,List.setIfInBounds_toArray,List.set_cons_zero,List.set_cons_succ])
   refine tkS 7 rfl hS (fun _=>hE) ?_;refine tkS 8 rfl hS (fun _=>hE) ?_;refine tkS 9 rfl hS (fun _=>hE) ?_;refine aao (rs:=[11]) (by kernel_rfl) (by simp) ?_;refine aaf.cons rfl (fun Kx hK=>?_) ?_
   rotate_left
   exact aaf.nil
   go_simp
   refine hK.out _ _ ⟨anp.out _ (ag0 HU1.out (Nat.le_refl _)),fun _=>trivial⟩ (fun hHeld=>?_);clear hK Kx;obtain ⟨hS,hE⟩:=hHeld;have hE:=hE (by kernel_rfl)
   (try simp only [Act.put,List.setIfInBounds_toArray,List.set_cons_zero,List.set_cons_succ])
   refine tkS 12 rfl hS (fun _=>hE) ?_;refine aa1 (by kernel_rfl) ?_ _;clear hS hE
   (try go_simp)
   go_wp2_with fail;go_meet;exact ajH.of2 HBX.out HY.out
  case rest =>
   obtain ⟨D,rfl,rfl,hbD,hmE,hDl⟩:=hcut.ex;clear hcut
   have as6:wc.heap[B]?=some (.cells #[.int .i64 (M.tryV l).1,.int .i64 (M.tryV l).2.1,.int .i64 (M.tryV l).2.2] 46 (0,0)):=by
    obtain ⟨_,_,u,_⟩:=hmE.ex
    exact (u.block _ (aak HBB.out.1) (fun hm=>by
     have h1:=HP.out.1.mem.z _ (List.mem_append.2 (.inr hm));have h2:=HBB.out.2;have h3:=HU0.out.size
     omega)).trans HBB.out.1
   have agG:=Lib.hid (And.intro hmE hDl);generalize hc:M.tryV l=c at *;generalize M.exchE l=E at *;obtain ⟨c0,c1,c2⟩:=c
   simp only at as6 hbD
   have y0:=aab (j:=0) as6 rfl;have y1:=aab (j:=1) as6 rfl;have y2:=aab (j:=2) as6 rfl;have z0:(wc.alloc (.cells #[.int .i64 c0,.int .i64 c1,.int .i64 c2] 46 (0,0))).cell? ⟨D,0,none⟩=some (.int .i64 c0):=((Upd.refl [] _).alloc _).cell0 (aab hbD rfl);have z1:(wc.alloc (.cells #[.int .i64 c0,.int .i64 c1,.int .i64 c2] 46 (0,0))).cell? ⟨D,1,none⟩=some (.int .i64 c1):=((Upd.refl [] _).alloc _).cell0 (aab hbD rfl);have z2:(wc.alloc (.cells #[.int .i64 c0,.int .i64 c1,.int .i64 c2] 46 (0,0))).cell? ⟨D,2,none⟩=some (.int .i64 c2):=((Upd.refl [] _).alloc _).cell0 (aab hbD rfl);have hg1:=heap_alloc_new wc (.cells #[.int .i64 c0,.int .i64 c1,.int .i64 c2] 46 (0,0));have hg2:=heap_alloc_new (wc.alloc (.cells #[.int .i64 c0,.int .i64 c1,.int .i64 c2] 46 (0,0))) (.cells #[.int .i64 c0,.int .i64 c1,.int .i64 c2] 129 (0,0));have ax4:=(Below.heap_alloc _ (.cells #[.int .i64 c0,.int .i64 c1,.int .i64 c2] 129 (0,0)) _ (aak hg1)).trans hg1;rw [World.size_alloc] at hg2;have hu4:Upd [] wc ((wc.alloc (.cells #[.int .i64 c0,.int .i64 c1,.int .i64 c2] 46 (0,0))).alloc (.cells #[.int .i64 c0,.int .i64 c1,.int .i64 c2] 129 (0,0))):=((Upd.refl _ _).alloc _).alloc _;obtain ⟨w4,hw4⟩ : ∃ w4,(wc.alloc (.cells #[.int .i64 c0,.int .i64 c1,.int .i64 c2] 46 (0,0))).alloc (.cells #[.int .i64 c0,.int .i64 c1,.int .i64 c2] 129 (0,0))=w4:=⟨_,rfl⟩;rw [hw4] at ax4 hg2 hu4;have HW4:=Lib.hid hw4;have HCH:=Lib.hid (alU 0 0 _ _ [(c0,c1,c2)] w4 (apm (c:=(c0,c1,c2)) ax4) (apm (c:=(c0,c1,c2)) hg2) (by simp));have HU4:=Lib.hid hu4
   have hEE:(E == E)=true:=by simp
   clear as6 hbD hmE hDl hg1 ax4 hg2 hu4 hw4 hc anp HDT;go_wp2_with fail;rw [HW4.out];go_wp2_with fail;refine HCH.out.mono ?_;rintro e w5 ⟨rfl,hu⟩;have HU5:=Lib.hid (HU4.out.trans hu);clear hu;go_wp2_with fail;go_ret;obtain ⟨p',hP3,hF3⟩:=HP1.out.1.model agG.out.1;obtain ⟨l1,l2⟩:=HP.out.2.1.stay HP.out.2.2.1 hP3.mem.ker.ok HP1.out.2.2.2.1 HP1.out.2.2.1;exact ⟨rfl,⟨K',F',p',hP3.keep0 HU5.out,l1,l2,HP1.out.2.2.2.1.vr.trans HP.out.2.2.2⟩,(((Fro.of0 HU0.out).trans HP1.out.2.1).trans hF3).trans (Fro.of0 HU5.out)⟩
def MV.backE (M:MV) (tr:Int):Int:=if tr<0\/(M.trail.length:Int)<tr then 1 else 0
def MV.backC (M:MV) (tr:Int):Int:=if tr<0\/(M.trail.length:Int)<tr then 0 else ((M.trail.length-tr.toNat:Nat):Int)
def MV.back (M:MV) (tr:Int):MV:=if tr<0\/(M.trail.length:Int)<tr then M else MV.backN (M.trail.length-tr.toNat) M
structure as7 (b:Nat) (tr:Int) (K:KV) (F:List Nat) (M:MV) (w:World) (e:Ending) (w':World):Prop where
 ex:∃ (K':KV) (F':List Nat),e=.returned (.tuple #[.int .i64 (M.backC tr),.int .i64 (M.backE tr)])/\aa0 w' b K' F'/\KM K' (M.back tr)/\adM K K'/\Stp F w F' w'
theorem as8 (b:Nat) (tr:Int) (K:KV) (F:List Nat) (M:MV) (w:World) (h:aa0 w b K F) (hm:KM K M) (ht:M.trail.length<=1000000) :
  Calls Tryz.prog 21 #[.pointer (some ⟨b,0,none⟩),.int .i64 tr] w fun e w'=>as7 b tr K F M w e w':=by
 by_cases hr:tr<0\/(M.trail.length:Int)<tr
 ·have e1:M.backC tr=0:=if_pos hr
  have e2:M.backE tr=1:=if_pos hr;have e3:M.back tr=M:=if_pos hr;have agG:Hid (as7 b tr K F M w (.returned (.tuple #[.int .i64 0,.int .i64 1])) w):=⟨K,F,by rw [e1,e2],h,by rw [e3];exact hm,adM.refl _,⟨Upd.refl _ _,Sub.refl _ _⟩⟩;have HTR:=Lib.hid (agK b K F w h);rw [hm.tr] at HTR;generalize M.trail.length=TL at *;clear h hm e1 e2 e3
  by_cases h0:tr<0
  ·clear hr
   go_enter Tryz.func21,Tryz.ntmps21
   go_wp2_with fail;go_ret2;exact agG.out
  ·have h1:(TL:Int)<tr:=by omega
   clear hr
   go_enter Tryz.func21,Tryz.ntmps21
   go_wp2_with fail;refine HTR.out.mono ?_;rintro e w1 ⟨rfl,rfl⟩;go_wp2_with fail;go_ret2;exact agG.out
 ·have e1:M.backC tr=((M.trail.length-tr.toNat:Nat):Int):=if_neg hr
  have e2:M.backE tr=0:=if_neg hr;have e3:M.back tr=MV.backN (M.trail.length-tr.toNat) M:=if_neg hr
  have hl:((tr.toNat:Nat):Int)=tr:=by omega
  have h1:=apk b tr.toNat K F M w h hm ht (by omega);rw [hl] at h1;refine h1.mono ?_;rintro e w' hE;obtain ⟨K',F',h1,h2,h3,h4,h5⟩:=hE.ex;exact ⟨K',F',by rw [e1,e2];exact h1,h2,by rw [e3];exact h3,h4,h5⟩
structure alX (m:Nat) (tr:Int) (M:MV) (p:aaE) (Z:List Nat) (w:World) (e:Ending) (w':World):Prop where
 ex:e=.returned (.tuple #[.int .i64 (M.backC tr),.int .i64 (M.backE tr)])/\abn m p Z (M.back tr) w w'
theorem alY (m:Nat) (tr:Int) (M:MV) (p:aaE) (Z:List Nat) (w:World) (h:aa8 w m M p Z) (hf:M.TrFit) (ho:M.order.length=M.n) (hn:M.n<=64) (ht:M.trail.length<=1000000) :
  Calls Tryz.prog 59 #[.pointer (some ⟨m,0,none⟩),.int .i64 tr] w fun e w'=>alX m tr M p Z w e w':=by
 obtain ⟨xa,xc,hxv,_⟩:=aar h.ts;obtain ⟨_,_,_,_,c4⟩:=h.cells;rw [hxv] at c4
 by_cases hr:tr<0\/(M.trail.length:Int)<tr
 ·have e1:M.backC tr=0:=if_pos hr
  have e2:M.backE tr=1:=if_pos hr;have e3:M.back tr=M:=if_pos hr;have agG:Hid (alX m tr M p Z w (.returned (.tuple #[.int .i64 0,.int .i64 1])) w):=⟨by rw [e1,e2],by rw [e3];exact abn.same h (Upd.refl _ _)⟩;generalize M.trail.length=TL at *;clear h hf ho hxv e1 e2 e3
  by_cases h0:tr<0
  ·clear hr
   go_enter Tryz.func59,Tryz.ntmps59
   go_wp2_with fail;go_ret2;exact agG.out
  ·have h1:(TL:Int)<tr:=by omega
   clear hr
   go_enter Tryz.func59,Tryz.ntmps59
   go_wp2_with fail;go_ret2;exact agG.out
 ·have e1:M.backC tr=((M.trail.length-tr.toNat:Nat):Int):=if_neg hr
  have e2:M.backE tr=0:=if_neg hr;have e3:M.back tr=MV.backN (M.trail.length-tr.toNat) M:=if_neg hr
  have hl:((tr.toNat:Nat):Int)=tr:=by omega
  have HB:=Lib.hid (ano m tr.toNat M p Z w h hf ho hn ht (by omega));rw [hl] at HB
  have agG:Hid (∀ z,abn m p Z (MV.backN (M.trail.length-tr.toNat) M) w z->alX m tr M p Z w (.returned (.tuple #[.int .i64 ((M.trail.length-tr.toNat:Nat):Int),.int .i64 0])) z):=fun z hz=>⟨by rw [e1,e2],by rw [e3];exact hz⟩
  have h0:¬ (tr<0):=by omega
  have h1:¬ ((M.trail.length:Int)<tr):=by omega
  generalize MV.backN (M.trail.length-tr.toNat) M=M2 at *;generalize M.trail.length-tr.toNat=cnt at *;generalize M.trail.length=TL at *;clear h hf ho hxv e1 e2 e3 hr hl
  go_enter Tryz.func59,Tryz.ntmps59
  go_wp2_with fail;refine HB.out.mono ?_;rintro e w1 ⟨rfl,hm⟩;have HM:=Lib.hid hm;clear hm;go_wp2_with fail;go_ret2;exact agG.out w1 HM.out
theorem aku (n0 a b m n:Nat) (rv tv:Value) (M:MV) (refs:List Nat) (tabs:List TV) (l:Int) (oa:Option Addr) (on oc:Nat) (w:World) (h:PS w n0 a b m n rv tv M refs tabs) (ht:M.trail.length<=900000) :
  Calls Tryz.prog 16 #[.pointer (some ⟨a,0,none⟩),.agg #[.int .i64 2,.int .i64 l,.slice oa on oc]] w fun e w'=>awr n0 a b m n rv tv (M.back l) refs tabs w e w':=by
 obtain ⟨K,F,p,hP,hL,hC,hvn⟩:=h.ex;have hb0:=heap_alloc_new w (.cells #[.int .i64 2,.int .i64 l,.slice oa on oc] 34 (0,0));have hu0:Upd [] w (w.alloc (.cells #[.int .i64 2,.int .i64 l,.slice oa on oc] 34 (0,0))):=(Upd.refl _ _).alloc _;obtain ⟨w0,hw0⟩ : ∃ w0,w.alloc (.cells #[.int .i64 2,.int .i64 l,.slice oa on oc] 34 (0,0))=w0:=⟨_,rfl⟩;rw [hw0] at hb0 hu0;have HW0:=Lib.hid hw0;have HU0:=Lib.hid hu0;have HP:=Lib.hid (And.intro hP (And.intro hL (And.intro hC hvn)))
 have HBK:Hid (∀ z,Upd [] w z->Calls Tryz.prog 21 #[.pointer (some ⟨b,0,none⟩),.int .i64 l] z fun e w'=>as7 b l K F M z e w'):=fun z u=>as8 b l K F M z (hP.mem.ker.upd u (by simp)) hL.km (by omega)
 obtain ⟨a0,a1,_,_⟩:=hP.cells
 have HSE:Hid (∀ z,Upd F w0 z->(z.cell? ⟨a,0,none⟩=some (.pointer (some ⟨b,0,none⟩))/\z.cell? ⟨a,1,none⟩=some (.pointer (some ⟨m,0,none⟩)))/\z.cell? ⟨w.heap.size,1,none⟩=some (.int .i64 l)/\z.heap[w.heap.size]?=some (.cells #[.int .i64 2,.int .i64 l,.slice oa on oc] 34 (0,0))):=fun z u=>by
  have h1:=(u.block _ (aak hb0) (fun hm=>by have:=hP.mem.ker.lt _ hm;omega)).trans hb0;exact ⟨⟨((hu0.mono (by simp):Upd F w w0).trans u).cell (aak hP.blk) hP.na.1 |>.trans a0,((hu0.mono (by simp):Upd F w w0).trans u).cell (aak hP.blk) hP.na.1 |>.trans a1⟩,aab h1 rfl,h1⟩
 have x2:w0.cell? ⟨w.heap.size,0,none⟩=some (.int .i64 2):=aab hb0 rfl;obtain ⟨⟨x0,x1⟩,x3,_⟩:=HSE.out w0 (Upd.refl _ _);clear h hP hL hC hvn hb0 hu0 hw0 a0 a1
 go_enter Tryz.func16,Tryz.ntmps16
 go_wp2_with fail;rw [HW0.out];go_upto_region 7 with fail
 have HR0:Hid (∀ z,Upd F w0 z->z.cell? ⟨a,0,none⟩=some (.pointer (some ⟨b,0,none⟩))/\z.cell? ⟨w.heap.size,1,none⟩=some (.int .i64 l)):=fun z u=>⟨(HSE.out z u).1.1,(HSE.out z u).2.1⟩
 go_region_held3 (fun z=>z.cell? ⟨a,0,none⟩=some (.pointer (some ⟨b,0,none⟩))/\z.cell? ⟨w.heap.size,1,none⟩=some (.int .i64 l)) (first | exact HR0.out _ (Upd.refl _ _).drew | exact HR0.out _ HU1.out) (first
  | (go_at_call 21;refine (HBK.out _ (HU0.out.trans (Upd.refl _ _).drew)).mono ?_;rintro e w1 hE1;obtain ⟨K',F',rfl,hK1,hM1,hS1,hT1⟩:=hE1.ex;have HY:=Lib.hid (And.intro hK1 (And.intro hM1 (And.intro hS1 hT1)));have HU1:Hid (Upd F w0 w1):=(Upd.refl F w0).drew.trans hT1.up;clear hE1 hK1 hM1 hS1 hT1))
 have hst:Stp F w0 F' w1:=⟨HU1.out,HY.out.2.2.2.sub⟩;obtain ⟨hP1,hF1⟩:=(HP.out.1.keep0 HU0.out).kernel HY.out.1 hst.up hst.sub;have HP1:=Lib.hid (And.intro hP1 hF1)
 have HDB:Hid (∀ z,Upd [] w1 z->Calls Tryz.prog 59 #[.pointer (some ⟨m,0,none⟩),.int .i64 l] z fun e w'=>alX m l M p (F'++p.all m) z e w'):=fun z u =>
  alY m l M p _ z (hP1.mem.mod.keep0 u) HP.out.2.1.km.tf (HP.out.2.1.km.len HP.out.1.mem.ker.ok) (by have:=HP.out.2.1.km.fit.n6;omega) (by omega)
 have HR1:Hid (∀ z,Upd (p.all m) w1 z->z.cell? ⟨a,1,none⟩=some (.pointer (some ⟨m,0,none⟩))/\z.cell? ⟨w.heap.size,1,none⟩=some (.int .i64 l)):=fun z u=>by
  obtain ⟨_,c1,_,_⟩:=hP1.cells;refine ⟨(u.cell (aak hP1.blk) hP1.na.2).trans c1,?_⟩;have h1:=(HSE.out w1 HU1.out).2.1
  exact (u.cell (World.block_lt_of_cell? _ _ h1) (fun hm=>by
   have h2:=HP.out.1.mem.z _ (List.mem_append.2 (.inr hm));exact absurd h2 (Nat.lt_irrefl _))).trans h1
 clear hst hP1 hF1 x0 x1 x3 x2;obtain ⟨x1,x3⟩:=HR1.out w1 (Upd.refl _ _);go_wp2_with fail
 go_region_held3 (fun z=>z.cell? ⟨a,1,none⟩=some (.pointer (some ⟨m,0,none⟩))/\z.cell? ⟨w.heap.size,1,none⟩=some (.int .i64 l)) (first | exact HR1.out _ (Upd.refl _ _).drew | exact HR1.out _ HU2.out) (first
  | (go_at_call 59;refine (HDB.out _ (Upd.refl _ _).drew).mono ?_;rintro e w2 hE2;obtain ⟨rfl,hm2⟩:=hE2.ex;have HM2:=Lib.hid (abn.pre (Upd.refl [] w1).drew hm2);have HU2:Hid (Upd (p.all m) w1 w2):=by { obtain ⟨_,_,u,_⟩:=hm2.ex;exact (Upd.refl (p.all m) w1).drew.trans u };clear hE2 hm2))
 generalize M.backC l=C at *;generalize M.backE l=E at *
 have hCC:(C == C)=true:=by simp
 have hEE:(E == E)=true:=by simp
 go_wp2_with fail;go_ret;obtain ⟨p',hP3,hF3⟩:=HP1.out.1.model HM2.out;obtain ⟨l1,l2⟩:=HP.out.2.1.stay HP.out.2.2.1 hP3.mem.ker.ok HY.out.2.2.1 HY.out.2.1;exact ⟨rfl,⟨K',F',p',hP3,l1,l2,HY.out.2.2.1.vr.trans HP.out.2.2.2⟩,((Fro.of0 HU0.out).trans HP1.out.2).trans hF3⟩
theorem MV.Good.up {M:MV} (h:M.Good) {v:Nat} (hv:v∈M.order) (hi:0<M.lvl v) {l:Int} (hl:l=((M.lvl v-1:Nat):Int)) (he:M.exchE l=0) :
  v∈(M.exch l).order/\(M.exch l).lvl v=M.lvl v-1/\∀ j,j<M.lvl v-1->(M.exch l).order[j]?=M.order[j]?:=by
 obtain ⟨h0,h1,_,e⟩:=MV.exch_yes he;obtain ⟨a1,a2⟩:=MV.lvl_at hv;subst hl;have hg:=(h.exch ((M.lvl v-1:Nat):Int)).nd;obtain ⟨q,hq⟩ : ∃ q,M.lvl v-1=q:=⟨_,rfl⟩
 have hq1:M.lvl v=q+1:=by omega
 rw [hq] at e hg ⊢;rw [hq1] at a1 a2
 have eo:(M.exch (q:Int)).order=aaT M.order q:=by rw [e];rfl
 have at_:=acx (o:=M.order) (l:=q) (by omega)
 have hqv:(M.exch (q:Int)).order[q]?=some v:=by
  rw [eo,at_ q,if_neg (by omega),if_pos rfl,List.getD_eq_getElem?_getD,a2];rfl
 obtain ⟨hql,hqe⟩:=List.getElem?_eq_some_iff.1 hqv;refine ⟨List.mem_of_getElem? hqv,?_,fun j hj=>?_⟩
 ·unfold MV.lvl
  rw [<- hqe];exact hg.idxOf_getElem q hql
 ·rw [eo,at_ j,if_neg (by omega),if_neg (by omega)]
theorem ax5 {l:List Nat} (h:l.Nodup) {i j v:Nat} (hi:l[i]?=some v) (hj:l[j]?=some v):i=j:=by
 obtain ⟨p1,p2⟩:=List.getElem?_eq_some_iff.1 hi;obtain ⟨q1,q2⟩:=List.getElem?_eq_some_iff.1 hj;have h1:=h.idxOf_getElem i p1;have h2:=h.idxOf_getElem j q1;rw [p2] at h1;rw [q2] at h2;omega
structure ToQ (n0 a b m n:Nat) (rv tv:Value) (M:MV) (refs:List Nat) (tabs:List TV) (ord:List Nat) (w:World) (e:Ending) (w':World):Prop where
 ex:∃ (B:Bool) (M':MV),e=.returned (.bool B)/\PS w' n0 a b m n rv tv M' refs tabs/\Fro n0 w w'/\M'.held=M.held/\M'.c=M.c/\M'.n=M.n/\M'.trail.length<=M.trail.length+200/\(B=true->M'.order=ord)
structure ToI (n0 a b m n:Nat) (rv tv:Value) (M:MV) (refs:List Nat) (tabs:List TV) (ord:List Nat) (w:World) (i:Nat) (M2:MV) (wr:World):Prop where
 ps:PS wr n0 a b m n rv tv M2 refs tabs
 fr:Fro n0 w wr
 hd:M2.held=M.held
 c:M2.c=M.c
 nn:M2.n=M.n
 good:M2.Good
 pre:∀ j,j<i->M2.order[j]?=ord[j]?
theorem MV.exch_same (M:MV) (l:Int):(M.exch l).held=M.held/\(M.exch l).c=M.c/\(M.exch l).n=M.n:=by
 unfold MV.exch;split <;> exact ⟨rfl,rfl,rfl⟩
theorem alZ (n0 a b m n b0:Nat) (rv tv:Value) (M:MV) (refs:List Nat) (tabs:List TV) (oa:Option Addr) (oc:Nat) (ord:List Nat) (w:World) (h:PS w n0 a b m n rv tv M refs tabs) (ho:w.ownsRow b0 3 1 (.slice oa ord.length oc) ord.length (aaC ord))
  (hlo:∀ k,(Value.slice oa ord.length oc).ownBlock=some k->k<n0) (hol:ord.length=n) (hnd:ord.Nodup) (afd:∀ v,v∈ord->v<n) (ht:M.trail.length<=500000) :
  Calls Tryz.prog 19 #[.pointer (some ⟨a,0,none⟩),.slice oa ord.length oc] w fun e w'=>ToQ n0 a b m n rv tv M refs tabs ord w e w':=by
 have HO:=Lib.hid (And.intro ho hlo)
 have hn8:n<=8/\M.n=n/\M.Good:=by
  obtain ⟨K,_,_,hP,hL,_,hv⟩:=h.ex;have h1:=hL.km.fit.n6;have h2:=hL.km.agr.same.n;exact ⟨by omega,by omega,hL.km.good hP.mem.ker.ok⟩
 have HON:=Lib.hid (And.intro hol (And.intro hnd (And.intro afd hn8.2)));have hI0:ToI n0 a b m n rv tv M refs tabs ord w 0 M w:=⟨h,Fro.refl _ _,rfl,rfl,rfl,hn8.2.2,fun j hj=>by omega⟩;have HI0:=Lib.hid hI0;have hn8:=hn8.1;rw [hol] at ho ⊢;clear h hnd afd hI0 hlo ho hol;obtain ⟨T0,hT0⟩ : ∃ T0,M.trail.length=T0:=⟨_,rfl⟩;have HT0:=Lib.hid hT0;rw [hT0] at ht;clear hT0
 go_enter Tryz.func19,Tryz.ntmps19
 go_wp2_with fail
 go_loopg [14] n (fun g s14 wr=>∃ (i:Nat) (M2:MV),n-i=g/\i<=n/\s14=.int .i64 i/\ToI n0 a b m n rv tv M refs tabs ord w i M2 wr/\M2.trail.length<=T0+8*i)
 case atStart=>exact ⟨0,M,by omega,by omega,rfl,HI0.out,by have:=HT0.out;omega⟩
 case round =>
  obtain ⟨i,M2,rfl,hi,rfl,hI,htl⟩:=hrel;have HI:=Lib.hid hI
  by_cases hlt:i<n
  ·have hil:(i:Int)<(n:Int):=by omega
   obtain ⟨v,hv⟩ : ∃ v,ord[i]?=some v:=⟨_,List.getElem?_eq_getElem (by have:=HON.out.1;omega)⟩;have hvn:=HON.out.2.2.1 v (List.mem_of_getElem? hv)
   obtain ⟨g0,hg0⟩ : ∃ g0,oa=some ⟨g0,0,none⟩:=by
    obtain ⟨g,rfl⟩:=abg HO.out.1 (by have:=HON.out.1;omega);exact ⟨g,rfl⟩
   subst hg0;have hc:=aam HO.out.1 (j:=i) (u:=.int .i64 v) (by simp only [aaC,List.getElem?_map];rw [hv];rfl);have c0:=hI.fr.cell hc (HO.out.2 g0 rfl);have HV:=Lib.hid (And.intro hv hvn);clear hI hc hv;go_wp2_with fail;generalize wr=wS at *
   go_loopg [7] (M2.lvl v-i) (fun g s7 wr=>∃ M3:MV,M3.lvl v-i=g/\v∈M3.order/\i<=M3.lvl v/\ToI n0 a b m n rv tv M refs tabs ord w i M3 wr/\M3.trail.length+M3.lvl v<=T0+8*i+8)
   case atStart =>
    have hvm:v∈M2.order:=by
     obtain ⟨K,_,_,hP,hL,_,hvr⟩:=HI.out.ps.ex;obtain ⟨_,_,x3⟩:=hL.km.lvl hP.mem.ker.ok (v:=v) (by have:=hL.km.agr.same.n;omega);exact List.mem_of_getElem? x3
    obtain ⟨y1,y2⟩:=MV.lvl_at hvm
    have hge:i<=M2.lvl v:=by
     by_cases e:i<=M2.lvl v
     ·exact e
     ·have h1:=HI.out.pre (M2.lvl v) (by omega)
      rw [y2] at h1;have h2:=HV.out.1;exact absurd (ax5 HON.out.2.1 h1.symm h2) (by omega)
    have h3:=HI.out.good.len;have h4:=HI.out.nn;have h5:=HON.out.2.2.2.1;exact ⟨M2,by omega,hvm,hge,HI.out,by omega⟩
   case round =>
    obtain ⟨M3,rfl,hvm,hge,hI3,aBh⟩:=hrel;obtain ⟨K,F,p,hP,hL,hC,hvr⟩:=hI3.ps.ex;have HI3:=Lib.hid hI3;have HP:=Lib.hid (And.intro hP (And.intro hL (And.intro hC hvr)));obtain ⟨a0,a1,_,_⟩:=hP.cells
    have HLV:Hid (∀ z,Upd [] wr z->Calls Tryz.prog 65 #[.pointer (some ⟨m,0,none⟩),.int .i64 v] z fun e w'=>e=.returned (.int .i64 (M3.lvl v))/\w'=z):=fun z u =>
     ah4 m v M3 p _ z (hP.mem.mod.keep0 u) hvm (by have:=hI3.good.fit.ol;omega)
    obtain ⟨q1,q2⟩:=MV.lvl_at hvm
    have aFy:M3.lvl v<=8:=by have:=hI3.good.fit.ol;omega
    obtain ⟨lv,hlv⟩ : ∃ lv,M3.lvl v=lv:=⟨_,rfl⟩;have HLE:=Lib.hid hlv;have HVM:=Lib.hid hvm;have HTL:=Lib.hid aBh;rw [hlv] at HLV aFy hge aBh;clear hP hL hC hvr hI3 hvm q1 q2 hlv;go_wp2_with fail;refine (HLV.out wr (Upd.refl _ _)).mono ?_;rintro e w2 ⟨rfl,rfl⟩;have HU2:=Lib.hid (Upd.refl [] w2);have b0':=a0;have b1':=a1;clear a0 a1
    by_cases hgt:i<lv
    ·have hgl:(i:Int)<(lv:Int):=by omega
     go_wp2_with fail;refine (HLV.out w2 HU2.out).mono ?_;rintro e w3 ⟨rfl,rfl⟩;have HU3:=Lib.hid (Upd.refl [] w3);have c0':=b0';have c1':=b1';clear b0' b1'
     have hwr:IntKind.i64.wrap ((lv:Int)-1)=((lv-1:Nat):Int):=by rw [IntWalk.i64_in _ (by omega)];omega
     have asn:wrap64 ((lv:Int)-1)=((lv-1:Nat):Int):=by rw [IntWalk.wrap64_in _ (by omega)];omega
     obtain ⟨q,hq⟩ : ∃ q,lv-1=q:=⟨_,rfl⟩;rw [hq] at hwr asn;have HQ:=Lib.hid hq;clear hq;have HPI:=Lib.hid (HP.out.1.keep0 HU3.out);go_wp2_with fail;refine (ajB b q K F M3 w3 HPI.out.mem.ker HP.out.2.1.km (by have:=HTL.out;omega)).mono ?_;rintro e w4 hE;obtain ⟨K',F',rfl,hK4,hm4,hs4,hp4⟩:=hE.ex;obtain ⟨hP4,hF4⟩:=HPI.out.kernel hK4 hp4.up hp4.sub;have hux:Upd [] w4 (w4.alloc (.cells #[.int .i64 (M3.tryV q).1,.int .i64 (M3.tryV q).2.1,.int .i64 (M3.tryV q).2.2] 46 (0,0))):=(Upd.refl _ _).alloc _;have HP4:=Lib.hid (And.intro hP4 (And.intro hF4 (And.intro hm4 hs4)));unfold chV;obtain ⟨w5,hw5⟩ : ∃ w5,w4.alloc (.cells #[.int .i64 (M3.tryV q).1,.int .i64 (M3.tryV q).2.1,.int .i64 (M3.tryV q).2.2] 46 (0,0))=w5:=⟨_,rfl⟩;rw [hw5] at hux;have HW5:=Lib.hid hw5;have HU5:=Lib.hid hux;have HP5:=Lib.hid (hP4.keep0 hux);obtain ⟨_,d1,_,_⟩:=HP5.out.cells;clear hE hK4 hm4 hs4 hp4 hP4 hF4 hux hw5 c0' c1';generalize M3.tryV q=tv3 at *;obtain ⟨t1,t2,t3⟩:=tv3
     simp only at HW5
     go_upto_region 7 with fail;rw [HW5.out];have HDT:=Lib.hid (aid m q M3 p (F'++p.all m) w5 HP5.out.mem.mod HP5.out.mem.z HP.out.2.1.km.fit (HP.out.2.1.km.len HP.out.1.mem.ker.ok) (by have:=HTL.out;omega));go_wp2_with fail;refine HDT.out.mono ?_;rintro e w6 hE;obtain ⟨rfl,hm6⟩:=hE.ex;obtain ⟨p',hP6,hF6⟩:=HP5.out.model hm6;obtain ⟨l1,l2⟩:=HP.out.2.1.stay HP.out.2.2.1 hP6.mem.ker.ok HP4.out.2.2.2 HP4.out.2.2.1;have aBk:=HP4.out.2.2.2.vr.trans HP.out.2.2.2;have aBl:Fro n0 w w6:=((HI3.out.fr.trans HP4.out.2.1).trans (Fro.of0 HU5.out)).trans hF6;have hu7:Upd [] w6 (w6.alloc (.cells #[.int .i64 (M3.tryV q).1,.int .i64 (M3.tryV q).2.1,.int .i64 (M3.tryV q).2.2] 129 (0,0))):=(Upd.refl _ _).alloc _
     have HPS:Hid (PS (w6.alloc (.cells #[.int .i64 (M3.tryV q).1,.int .i64 (M3.tryV q).2.1,.int .i64 (M3.tryV q).2.2] 129 (0,0))) n0 a b m n rv tv (M3.exch q) refs tabs/\Fro n0 w (w6.alloc (.cells #[.int .i64 (M3.tryV q).1,.int .i64 (M3.tryV q).2.1,.int .i64 (M3.tryV q).2.2] 129 (0,0)))) :=
      ⟨⟨K',F',p',hP6.keep0 hu7,l1,l2,aBk⟩,aBl.trans (Fro.of0 hu7)⟩
     unfold chV;clear hE hm6 hP6 hF6 l1 l2 aBk aBl hu7 HDT d1;obtain ⟨E,hE⟩ : ∃ E,M3.exchE q=E:=⟨_,rfl⟩;have HE:=Lib.hid hE;rw [hE];clear hE
     have hne:(E != E)=false:=by simp
     obtain ⟨s1,s2,s3⟩:=MV.exch_same M3 q;have HSM:=Lib.hid (And.intro s1 (And.intro s2 s3));clear s1 s2 s3
     by_cases h0:E=0
     ·subst h0
      have auW:((0:Int) != 0)=false:=rfl;have HUP:=Lib.hid (HI3.out.good.up HVM.out (by have:=HLE.out;omega) (l:=(q:Int)) (by have h1:=HLE.out;have h2:=HQ.out;omega) HE.out);go_wp2_with fail
      go_roundg ((M3.exch q).lvl v-i)
      case measure=>have h1:=HUP.out.2.1;have h2:=HLE.out;have h3:=HQ.out;omega
      case rel =>
       have h1:=HUP.out.2.1;have h2:=HLE.out;have h3:=HQ.out;have h4:=(MV.exch_trail M3 q).1;refine ⟨M3.exch q,rfl,HUP.out.1,by omega,⟨HPS.out.1,HPS.out.2,HSM.out.1.trans HI3.out.hd,HSM.out.2.1.trans HI3.out.c,HSM.out.2.2.trans HI3.out.nn,HI3.out.good.exch _,fun j hj=>?_⟩,by have:=HTL.out;omega⟩;rw [HUP.out.2.2 j (by omega)];exact HI3.out.pre j hj
     ·have auW:(E != 0)=true:=by simpa using h0
      go_wp2_with fail;go_ret;have h4:=(MV.exch_trail M3 q).1;exact ⟨false,M3.exch q,rfl,HPS.out.1,HPS.out.2,HSM.out.1.trans HI3.out.hd,HSM.out.2.1.trans HI3.out.c,HSM.out.2.2.trans HI3.out.nn,by have h1:=HTL.out;have h2:=HT0.out;omega,fun h=>by cases h⟩
    ·have hgl:¬ ((i:Int)<(lv:Int)):=by omega
     have hli:lv=i:=by omega
     go_wp2_with fail
     go_roundg (n-(i+1))
     case measure=>omega
     case rel =>
      refine ⟨i+1,M3,rfl,by omega,by simp,⟨HI3.out.ps.keep0 HU2.out,HI3.out.fr.trans (Fro.of0 HU2.out),HI3.out.hd,HI3.out.c,HI3.out.nn,HI3.out.good,fun j hj=>?_⟩,by have:=HTL.out;omega⟩
      by_cases hji:j<i
      ·exact HI3.out.pre j hji
      ·obtain rfl:j=i:=by omega
       have h1:=(MV.lvl_at HVM.out).2;have h2:M3.lvl v=j:=HLE.out.trans hli;rw [h2] at h1;rw [h1,HV.out.1]
  ·obtain rfl:i=n:=by omega
   have hil:¬ ((i:Int)<(i:Int)):=by omega
   clear hI;go_wp2_with fail;go_ret;refine ⟨true,M2,rfl,HI.out.ps,HI.out.fr,HI.out.hd,HI.out.c,HI.out.nn,by have:=HT0.out;omega,fun _=>?_⟩;have h3:=HI.out.good.len;have h4:=HI.out.nn;have h5:=HON.out.2.2.2.1;have h6:=HON.out.1
   refine List.ext_getElem? fun j=>?_
   by_cases hj:j<i
   ·exact HI.out.pre j hj
   ·rw [List.getElem?_eq_none (by omega),List.getElem?_eq_none (by omega)]
def agl (tabs:List TV):List (TV × Nat):=(tabs.foldl MV.hold1 (⟨0,0,[],[],[]⟩ : MV)).held
theorem aoJ {M M':MV} (h:M.held=M'.held) (t:TV):(M.hold1 t).held=(M'.hold1 t).held:=by
 unfold MV.hold1 MV.holds;rw [h]
 by_cases h1:t.isC=true
 ·rw [if_pos h1,if_pos h1];exact h
 ·rw [if_neg h1,if_neg h1]
  by_cases h2:65535<=acJ M'.held t
  ·rw [if_pos h2,if_pos h2];exact h
  ·rw [if_neg h2,if_neg h2]
theorem anr (tabs:List TV) (t:TV):agl (tabs++[t])=((tabs.foldl MV.hold1 (⟨0,0,[],[],[]⟩ : MV)).hold1 t).held:=by
 unfold agl;rw [List.foldl_append];rfl
theorem as9 (M:MV) (t:TV):(M.hold1 t).n=M.n/\(M.hold1 t).c=M.c:=by
 unfold MV.hold1;split
 ·exact ⟨rfl,rfl⟩
 ·split <;> exact ⟨rfl,rfl⟩
theorem al0:∀ (L:List TV) (s:MV × List TV),s.1.held=agl s.2 ->
  (L.foldl acP s).1.held=agl (L.foldl acP s).2/\(L.foldl acP s).1.n=s.1.n/\(L.foldl acP s).1.c=s.1.c/\∃ T,(L.foldl acP s).2=s.2++T/\T.length<=L.length/\(T.length=L.length->T=L)
 | [],s,h=>⟨h,rfl,rfl,[],by simp,by simp,fun _=>rfl⟩
 | t::L,s,h=>by
  rw [List.foldl_cons]
  by_cases hE:s.1.ansE t=0
  ·have e:acP s t=(s.1.ans t,s.2++[t]):=if_pos hE
   have ea:s.1.ans t={ s.1.hold1 t with trail:=[] }:=if_pos hE;have hn:=as9 s.1 t
   obtain ⟨h1,h2,h3,T,h4,h5,h6⟩:=al0 L (s.1.ans t,s.2++[t]) (by
    show (s.1.ans t).held=_
    rw [ea,anr]
    exact aoJ h t)
   rw [e];refine ⟨h1,h2.trans (by rw [ea];exact hn.1),h3.trans (by rw [ea];exact hn.2),t::T,by rw [h4];simp,by simp;exact h5,fun hl=>?_⟩;rw [h6 (by simpa using hl)]
  ·have e:acP s t=s:=if_neg hE
   rw [e];obtain ⟨h1,h2,h3,T,h4,h5,h6⟩:=al0 L s h;exact ⟨h1,h2,h3,T,h4,by simp;omega,fun hl=>by simp at hl;omega⟩
theorem akZ (n c:Nat) (L:List TV):(acV n c L).1.held=agl (acV n c L).2/\(acV n c L).1.n=n/\(acV n c L).1.c=c/\((acV n c L).2.length=L.length->(acV n c L).2=L):=by
 obtain ⟨h1,h2,h3,T,h4,_,h6⟩:=al0 L (MV.new n c,[]) rfl;have h4':(acV n c L).2=T:=h4.trans (by simp);exact ⟨h1,h2,h3,fun hl=>by rw [h4'] at hl ⊢;exact h6 hl⟩
theorem ajI:∀ (l:List Int) (M:MV),(M.exchs l).held=M.held/\(M.exchs l).c=M.c/\(M.exchs l).n=M.n
 | [],_=>⟨rfl,rfl,rfl⟩
 | x::l,M=>by
  obtain ⟨h1,h2,h3⟩:=ajI l (M.exch x);obtain ⟨g1,g2,g3⟩:=MV.exch_same M x;exact ⟨h1.trans g1,h2.trans g2,h3.trans g3⟩
theorem MV.U_same {M M':MV} (h1:M'.held=M.held) (h2:M'.order=M.order) (l:Nat):M'.U l=M.U l:=by
 unfold MV.U MV.lev MV.tabs;rw [h1,h2]
theorem awu {o:List Nat} {c:List TV} (ho:o.length<=8) (hc:c.length<=40):(ab8 c o).flatten.length<=81920:=by
 have h1:=agD o c
 have h2:2 ^ o.length<=256:=by
  calc 2 ^ o.length<=2 ^ 8:=Nat.pow_le_pow_right (by omega) ho
   _=256:=rfl
 have h3:2 ^ o.length*c.length<=256*40:=Nat.mul_le_mul h2 hc;have h4:o.length*(2 ^ o.length*c.length)<=8*(256*40):=Nat.mul_le_mul ho h3;omega
theorem MV.U_small {M:MV} (hh:M.held.length<=40) (ho:M.order.length<=8) (l:Nat):M.U l<=163840:=by
 have h0:=abQ (M.lev.flatten++(ab8 (aaG M.tabs) (aaT M.order l)).flatten);rw [List.length_append] at h0
 have ht:(aaG M.tabs).length<=40:=by
  have h1:=abQ M.tabs
  have h2:M.tabs.length=M.held.length:=by unfold MV.tabs;rw [List.length_map]
  omega
 have h2:M.lev.flatten.length<=81920:=awu ho ht;have h3:(ab8 (aaG M.tabs) (aaT M.order l)).flatten.length<=81920:=awu (by rw [ab4];exact ho) ht;unfold MV.U;omega
end Go.Proofs.YtdackeldhdchaaaGreat
namespace Go.Proofs.YtdackeldhdchaaaGreat
open Go.ChangeShapes Go.WideShapes Go.ChangeAt Go.RowKit
theorem ata:ownKnob Tryz.prog.godebug=none:=by kernel_rfl
theorem atb:laidOutB Tryz.prog=true:=by kernel_rfl
theorem aoK {P:Program} {w:World} {r:Reach} {base:Nat} {t:TypeId} {v:Value} {fs:Array Field} (ht:P.underlying t=some (.struct fs)) (h:Value.okWide P w r base t v):∃ cs,v=.agg cs/\cs.size=P.cellsOf t/\Row.okWide P w r base t cs:=by
 unfold Value.okWide at h;rw [ht] at h;exact h
theorem al1:Tryz.prog.cellsOf 3=1:=by kernel_rfl
theorem avc:Tryz.prog.cellsOf 90=1:=by kernel_rfl
theorem atc:Tryz.prog.cellsOf 23=1:=by kernel_rfl
theorem atd:Tryz.prog.cellsOf 68=1:=by kernel_rfl
structure aiF (w:World) (k:IntKind) (a:Option Addr) (n c:Nat) (zs:List Int):Prop where
 row:ajy w k a n zs
 nc:n<=c
 cm:c<=maxLen
 wf:∀ z,z∈zs->(Lit.int k z).wf=true
theorem aiF.keep0 {w w':World} {k:IntKind} {a:Option Addr} {n c:Nat} {zs:List Int} (h:aiF w k a n c zs) (u:Upd [] w w'):aiF w' k a n c zs:=⟨h.row.keep0 u,h.nc,h.cm,h.wf⟩
theorem aiF.of_ints {H:Type} {W:World} {k:IntKind} {cs:List Value} {x:DataW H × List MemPlace}
  (h:(cs=[.slice none 0 0]/\x=(.nil,[])) \/
  ∃ (a:Addr) (len cap:Nat) (zs:List Int),cs=[.slice (some a) len cap]/\0<=a.block/\len<=cap/\cap<=maxLen/\zs.length=(if (fun _:Nat=>true) a.block then cap else len) /\
   x=(.slice (lits k (zs.take len)) (lits k (zs.drop len)),MemPlace.row a zs.length) /\
   (∀ i,i<zs.length->W.cell? (a.add i)=some (.int k (zs.getD i 0)))/\(∀ n∈zs,(Lit.int k n).wf=true)) :
  ∃ (a:Option Addr) (n c:Nat) (Zs:List Int),cs=[.slice a n c]/\aiF W k a n c Zs:=by
 rcases h with ⟨rfl,_⟩ | ⟨a,len,cap,zs,rfl,_,hl,hm,hz,_,hc,hw⟩
 ·exact ⟨none,0,0,[],rfl,⟨rfl,Nat.zero_le _,fun i hi=>by omega⟩,Nat.le_refl _,Nat.zero_le _,fun z hz=>by cases hz⟩
 ·have hz':zs.length=cap:=by simpa using hz
  refine ⟨some a,len,cap,zs.take len,rfl,⟨by rw [List.length_take];omega,by omega,fun i hi=>⟨a,rfl,?_⟩⟩,hl,hm,fun z hz=>hw z (List.mem_of_mem_take hz)⟩;rw [hc i (by omega),List.getD_eq_getElem?_getD,List.getD_eq_getElem?_getD,List.getElem?_take_of_lt hi]
end Go.Proofs.YtdackeldhdchaaaGreat
