import Derived.Test.YtlkgkojidclncaaGreatTC22
import Derived.Test.YtlkgkojidclncaaGreatTC25
import Derived.Test.YtlkgkojidclncaaGreatTC15
import Derived.Test.YtlkgkojidclncaaGreatTC12
import Derived.Test.YtlkgkojidclncaaGreatTC11
import Derived.Test.YtlkgkojidclncaaGreatTC20
import Derived.Test.YtlkgkojidclncaaGreatTC23
import Derived.Deep.RegionLaw
import Derived.Deep.AppendLies
import Derived.Laws.ResultCell
import Derived.Laws.Rows
import Derived.WalkKit
import Derived.ProofKit
import Derived.OpenShut
import Derived.ShutString
import Derived.ChangeOld
import Derived.ChangeSlices
import Derived.Below
import Derived.BigQuiet
set_option maxRecDepth 100000
set_option maxHeartbeats 6400000
namespace Go.Proofs.YtlkgkojidclncaaGreat
open Go.RowKit Go.Maps Go.ChangeMaps Go.WideShapes
theorem clive_nil (lv:Value) (w:World) :
  Calls Tryz.prog 115 #[.pointer none,lv] w fun e w'=>e=.returned (.int .i64 10)/\Upd [] w w':=by
 go_enter Tryz.func115,Tryz.ntmps115
 go_wp2_with fail;go_ret;exact ⟨rfl,Upd.refl _ _⟩
theorem clive_dead (b f:Nat) (K:KV) (T:List DM) (q:KPtr) (lv:Value) (w:World) (h:KerIn w b K T q) (hf:K.A.tk f=false) (hf32:f<=4294967295) (hrow:w.ownsRow 0 62 1 lv [f].length (flatRefs [f])) :
  Calls Tryz.prog 115 #[.pointer (some ⟨b,0,none⟩),lv] w fun e w'=>e=.returned (.int .i64 3)/\Upd [] w w':=by
 obtain ⟨fa,fc,rfl,_⟩:=row_nil_len hrow;have HD:=Lib.hid (fun z (u:Upd [] w z)=>nodeof_no b f K T q z (h.upd u (by simp)).mem hf32 hf);obtain ⟨g,rfl⟩:=row_some hrow (by simp);have cf:=row_cell hrow (j:=0) (u:=.int .u32 f) (by simp [flatRefs]);have e1:(Value.slice (some ⟨g,0,none⟩) [f].length fc)=.slice (some ⟨g,0,none⟩) 1 fc:=rfl;rw [e1];clear h hf hf32 hrow e1
 go_enter Tryz.func115,Tryz.ntmps115
 go_wp2_with fail
 go_loopg [13] 1 (fun g s13 wr=>g=1/\s13=.int .i64 0/\wr=w)
 case atStart=>exact ⟨rfl,rfl,rfl⟩
 case round =>
  obtain ⟨rfl,rfl,rfl⟩:=hrel;go_wp2_with fail;refine (HD.out _ (Upd.refl _ _)).mono ?_;rintro e w1 ⟨rfl,hu⟩;have HU1:=Lib.hid hu;clear hu;go_wp2_with fail;go_ret;exact ⟨rfl,HU1.out.alloc _⟩
theorem row_one1 (w:World) (o:Obj) (f:Nat):((w.alloc o).alloc (.cells #[.int .u32 f] 62 (0,0))).ownsRow 0 62 1 (.slice (some ⟨w.heap.size+1,0,none⟩) 1 1) [f].length (flatRefs [f]):=by
 have h:=row_one (w.alloc o) f
 rwa [World.size_alloc] at h
structure NoAns (kp:Option Addr) (r:Nat) (e:Int) (w:World):Prop where
 ex:∀ z lv,Upd [] w z->z.ownsRow 0 62 1 lv [r].length (flatRefs [r])->Calls Tryz.prog 115 #[.pointer kp,lv] z fun en w'=>en=.returned (.int .i64 e)/\Upd [] z w'
 e:e=3\/e=10
theorem NoAns.keep {kp:Option Addr} {r:Nat} {e:Int} {w w':World} (h:NoAns kp r e w) (u:Upd [] w w'):NoAns kp r e w':=⟨fun z lv v=>h.ex z lv (u.trans v),h.e⟩
theorem NoAns.nil (r:Nat) (w:World):NoAns none r 10 w:=⟨fun z lv _ _=>clive_nil lv z,.inr rfl⟩
theorem NoAns.dead {b f:Nat} {K:KV} {T:List DM} {q:KPtr} {w:World} (h:KerIn w b K T q) (hf:K.A.tk f=false) (hf32:f<=4294967295):NoAns (some ⟨b,0,none⟩) f 3 w :=
 ⟨fun z lv v hr=>clive_dead b f K T q lv z (h.upd v (by simp)) hf hf32 hr,.inl rfl⟩
theorem eval_no (kp:Option Addr) (r:Nat) (x e:Int) (w:World) (h:NoAns kp r e w) :
  Calls Tryz.prog 43 #[.pointer kp,.int .u32 r,.int .u64 x] w fun en w'=>en=.returned (.tuple #[.bool false,.int .i64 e])/\Upd [] w w':=by
 have HN:=Lib.hid h
 rcases h.e with rfl | rfl
 all_goals
  clear h
  go_enter Tryz.func43,Tryz.ntmps43
  go_wp2_with fail;refine (HN.out.ex _ _ (by repeat' (first | exact Upd.refl _ _ | refine Upd.alloc ?_ _)) (row_one _ r)).mono ?_;rintro e w1 ⟨rfl,hu⟩;have HU1:=Lib.hid hu;clear hu;go_wp2_with fail;go_ret2;exact ⟨rfl,((Upd.refl _ _).alloc _).trans HU1.out⟩
theorem support_no (kp:Option Addr) (r:Nat) (e:Int) (w:World) (h:NoAns kp r e w) :
  Calls Tryz.prog 39 #[.pointer kp,.int .u32 r] w fun en w'=>en=.returned (.tuple #[.int .u64 0,.int .i64 e])/\Upd [] w w':=by
 have HN:=Lib.hid h
 rcases h.e with rfl | rfl
 all_goals
  clear h
  go_enter Tryz.func39,Tryz.ntmps39
  go_wp2_with fail;refine (HN.out.ex _ _ (by repeat' (first | exact Upd.refl _ _ | refine Upd.alloc ?_ _)) (row_one _ r)).mono ?_;rintro e w1 ⟨rfl,hu⟩;have HU1:=Lib.hid hu;clear hu;go_wp2_with fail;go_ret2;exact ⟨rfl,((Upd.refl _ _).alloc _).trans HU1.out⟩
theorem paths_no (kp:Option Addr) (r:Nat) (e:Int) (w:World) (h:NoAns kp r e w) :
  Calls Tryz.prog 41 #[.pointer kp,.int .u32 r] w fun en w'=>en=.returned (.tuple #[.int .u64 0,.int .i64 e])/\Upd [] w w':=by
 have HN:=Lib.hid h
 rcases h.e with rfl | rfl
 all_goals
  clear h
  go_enter Tryz.func41,Tryz.ntmps41
  go_wp2_with fail;refine (HN.out.ex _ _ (by repeat' (first | exact Upd.refl _ _ | refine Upd.alloc ?_ _)) (row_one _ r)).mono ?_;rintro e w1 ⟨rfl,hu⟩;have HU1:=Lib.hid hu;clear hu;go_wp2_with fail;go_ret2;exact ⟨rfl,((Upd.refl _ _).alloc _).trans HU1.out⟩
theorem size_no (kp:Option Addr) (r:Nat) (e:Int) (lv:Value) (w:World) (h:NoAns kp r e w) (hr:w.ownsRow 0 62 1 lv [r].length (flatRefs [r])) :
  Calls Tryz.prog 40 #[.pointer kp,lv] w fun en w'=>en=.returned (.tuple #[.int .i64 0,.int .i64 e])/\Upd [] w w':=by
 have HN:=Lib.hid h;have HR:=Lib.hid hr
 rcases h.e with rfl | rfl
 all_goals
  clear h hr
  go_enter Tryz.func40,Tryz.ntmps40
  go_wp2_with fail;refine (HN.out.ex _ _ (by repeat' (first | exact Upd.refl _ _ | refine Upd.alloc ?_ _)) HR.out).mono ?_;rintro e w1 ⟨rfl,hu⟩;have HU1:=Lib.hid hu;clear hu;go_wp2_with fail;go_ret2;exact ⟨rfl,HU1.out⟩
theorem sats_no (kp:Option Addr) (r:Nat) (e:Int) (w:World) (h:NoAns kp r e w) :
  Calls Tryz.prog 49 #[.pointer kp,.int .u32 r] w fun en w'=>en=.returned (.tuple #[.int .u64 0,.int .i64 e])/\Upd [] w w':=by
 have HN:=Lib.hid h
 rcases h.e with rfl | rfl
 all_goals
  clear h;have hb0:=heap_alloc_new w (.cells #[.pointer kp] 37 (0,0));have c0:(w.alloc (.cells #[.pointer kp] 37 (0,0))).cell? ⟨w.heap.size,0,none⟩=some (.pointer kp):=cell_at hb0 rfl;clear hb0
  go_enter Tryz.func49,Tryz.ntmps49
  go_wp2_with fail;refine (HN.out.ex ((w.alloc (.cells #[.pointer kp] 37 (0,0))).alloc (.cells #[.int .u32 r] 62 (0,0))) _ (((Upd.refl [] w).alloc _).alloc _) (row_one1 w _ r)).mono ?_;rintro e w1 ⟨rfl,hu⟩;have HU1:=Lib.hid hu;clear hu;go_wp2_with fail;go_ret2;exact ⟨rfl,(((Upd.refl [] w).alloc (.cells #[.pointer kp] 37 (0,0))).alloc (.cells #[.int .u32 r] 62 (0,0))).trans HU1.out⟩
theorem ctable_no (kp:Option Addr) (r:Nat) (e:Int) (w:World) (h:NoAns kp r e w) :
  Calls Tryz.prog 68 #[.pointer kp,.int .u32 r] w fun en w'=>en=.returned (.tuple #[.agg #[.int .i64 0,.slice none 0 0],.int .i64 e])/\Upd [] w w':=by
 have HN:=Lib.hid h
 rcases h.e with rfl | rfl
 all_goals
  clear h;have hb0:=heap_alloc_new w (.cells #[.int .i64 0,.slice none 0 0] 110 (0,0));have HU0:=Lib.hid (((Upd.refl [] w).alloc (.cells #[.int .i64 0,.slice none 0 0] 110 (0,0))).alloc (.cells #[.int .u32 r] 62 (0,0)))
  have HB:Hid (∀ z,Upd [] ((w.alloc (.cells #[.int .i64 0,.slice none 0 0] 110 (0,0))).alloc (.cells #[.int .u32 r] 62 (0,0))) z->z.heap[w.heap.size]?=some (.cells #[.int .i64 0,.slice none 0 0] 110 (0,0))):=fun z u =>
   ((((Upd.refl [] _).alloc (.cells #[.int .u32 r] 62 (0,0))).trans u).block _ (heap_lt hb0) (by simp)).trans hb0
  have hfld:=fldT;clear hb0
  go_enter Tryz.func68,Tryz.ntmps68
  go_wp2_with fail;refine (HN.out.ex ((w.alloc (.cells #[.int .i64 0,.slice none 0 0] 110 (0,0))).alloc (.cells #[.int .u32 r] 62 (0,0))) _ HU0.out (row_one1 w _ r)).mono ?_;rintro e w1 ⟨rfl,hu⟩;have HBB:=Lib.hid (HB.out _ hu);have HU1:=Lib.hid (HU0.out.trans hu);have z0:w1.cell? ⟨w.heap.size,0,none⟩=some (.int .i64 0):=cell_at HBB.out rfl;have z1:w1.cell? ⟨w.heap.size,1,none⟩=some (.slice none 0 0):=cell_at HBB.out rfl;have f0:=frozen_at 0 HBB.out;have f1:=frozen_at 1 HBB.out;clear hu;go_wp2_with fail;obtain ⟨c0,c1⟩:=box2 HBB.out (.int .i64 0) (.slice none 0 0);refine bodyPost_ret (v:=.tuple #[.agg #[.int .i64 0,.slice none 0 0],.int .i64 _]) (by simp [results,Tryz.results68,go_sem,c0,c1];rfl) rfl ?_;exact ⟨rfl,(HU1.out.setCell (p:=⟨w.heap.size,0,none⟩) (.inr (Nat.le_refl _)) _).setCell (p:=⟨w.heap.size,1,none⟩) (.inr (Nat.le_refl _)) _⟩
theorem ctable_vars (b r:Nat) (K:KV) (T:List DM) (q:KPtr) (w:World) (h:KerIn w b K T q) (hf:K.A.tk r=true) (hv:16<K.vars) :
  Calls Tryz.prog 68 #[.pointer (some ⟨b,0,none⟩),.int .u32 r] w fun en w'=>en=.returned (.tuple #[.agg #[.int .i64 0,.slice none 0 0],.int .i64 6])/\Upd [] w w':=by
 have HL:Hid (∀ r',r'∈[r]->K.A.tk r'=true):=fun r' hr=>by
  simp only [List.mem_singleton] at hr;subst hr;exact hf
 have HU0:=Lib.hid (((Upd.refl [] w).alloc (.cells #[.int .i64 0,.slice none 0 0] 110 (0,0))).alloc (.cells #[.int .u32 r] 62 (0,0)));have HK:=Lib.hid (fun z (u:Upd [] w z)=>h.upd u (by simp));have hb0:=heap_alloc_new w (.cells #[.int .i64 0,.slice none 0 0] 110 (0,0))
 have HB:Hid (∀ z,Upd [] ((w.alloc (.cells #[.int .i64 0,.slice none 0 0] 110 (0,0))).alloc (.cells #[.int .u32 r] 62 (0,0))) z->z.heap[w.heap.size]?=some (.cells #[.int .i64 0,.slice none 0 0] 110 (0,0))):=fun z u =>
  ((((Upd.refl [] _).alloc (.cells #[.int .u32 r] 62 (0,0))).trans u).block _ (heap_lt hb0) (by simp)).trans hb0
 have HV2:Hid (∀ z,Upd [] w z->Calls Tryz.prog 48 #[.pointer (some ⟨b,0,none⟩)] z fun e w'=>e=.returned (.int .i64 K.vars)/\w'=z):=fun z u=>vars_spec b K T q z (h.upd u (by simp)).mem
 have hfld:=fldT
 have hv16:(16:Int)<(K.vars:Int):=by omega
 have hvs:K.vars<=64:=h.ok.wf.vs.2;generalize K.vars=v at *;clear hb0 h hf hv
 go_enter Tryz.func68,Tryz.ntmps68
 go_wp2_with fail;refine (clive_ok b K T q _ [r] ((w.alloc (.cells #[.int .i64 0,.slice none 0 0] 110 (0,0))).alloc (.cells #[.int .u32 r] 62 (0,0))) (HK.out _ HU0.out) (row_one1 w _ r) HL.out (by simp)).mono ?_;rintro e w1 ⟨rfl,hu⟩;have HU1:=Lib.hid (HU0.out.trans hu);have HB1:=Lib.hid (HB.out _ hu);clear hu;go_wp2_with fail;refine (HV2.out w1 HU1.out).mono ?_;rintro e w2 ⟨rfl,rfl⟩;have hb2:=heap_alloc_new w2 (.cells #[.int .i64 v] 3 (0,0));have x2:(w2.alloc (.cells #[.int .i64 v] 3 (0,0))).cell? ⟨w2.heap.size,0,none⟩=some (.int .i64 v):=cell_at hb2 rfl;have hb3:=((((Upd.refl [] w2).alloc (.cells #[.int .i64 v] 3 (0,0)))).block _ (heap_lt HB1.out) (by simp)).trans HB1.out;have z0:(w2.alloc (.cells #[.int .i64 v] 3 (0,0))).cell? ⟨w.heap.size,0,none⟩=some (.int .i64 0):=cell_at hb3 rfl;have z1:(w2.alloc (.cells #[.int .i64 v] 3 (0,0))).cell? ⟨w.heap.size,1,none⟩=some (.slice none 0 0):=cell_at hb3 rfl;have f0:=frozen_at 0 hb3;have f1:=frozen_at 1 hb3;have HB3:=Lib.hid hb3;clear hb2 hb3;go_wp2_with fail;obtain ⟨c0,c1⟩:=box2 HB3.out (.int .i64 0) (.slice none 0 0);refine bodyPost_ret (v:=.tuple #[.agg #[.int .i64 0,.slice none 0 0],.int .i64 6]) (by simp [results,Tryz.results68,go_sem,c0,c1]) rfl ?_;exact ⟨rfl,((HU1.out.alloc _).setCell (p:=⟨w.heap.size,0,none⟩) (.inr (Nat.le_refl _)) _).setCell (p:=⟨w.heap.size,1,none⟩) (.inr (Nat.le_refl _)) _⟩
theorem none_spec (kp:Option Addr) (r:Nat) (x e:Int) (w:World) (h:NoAns kp r e w) :
  Calls Tryz.prog 67 #[.pointer kp,.int .u32 r,.int .u64 x,.int .i64 e] w fun en w'=>en=.returned (.bool true)/\Upd [] w w':=by
 have HN:=Lib.hid h;have hfld:=fldT
 rcases h.e with rfl | rfl
 all_goals
  clear h
  go_enter Tryz.func67,Tryz.ntmps67
  go_wp2_with fail;refine (eval_no kp r x _ w HN.out).mono ?_;rintro e w1 ⟨rfl,hu⟩;have HU1:=Lib.hid hu;clear hu;go_wp2_with fail;refine (support_no kp r _ w1 (HN.out.keep HU1.out)).mono ?_;rintro e w2 ⟨rfl,hu⟩;have HU2:=Lib.hid (HU1.out.trans hu);clear hu;go_wp2_with fail;refine (sats_no kp r _ w2 (HN.out.keep HU2.out)).mono ?_;rintro e w3 ⟨rfl,hu⟩;have HU3:=Lib.hid (HU2.out.trans hu);clear hu;go_wp2_with fail;refine (size_no kp r _ _ _ (HN.out.keep (HU3.out.alloc (.cells #[.int .u32 r] 62 (0,0)))) (row_one w3 r)).mono ?_;rintro e w4 ⟨rfl,hu⟩;have HU4:=Lib.hid ((HU3.out.alloc _).trans hu);clear hu;go_wp2_with fail;refine (paths_no kp r _ w4 (HN.out.keep HU4.out)).mono ?_;rintro e w5 ⟨rfl,hu⟩;have HU5:=Lib.hid (HU4.out.trans hu);clear hu;go_wp2_with fail;refine (ctable_no kp r _ w5 (HN.out.keep HU5.out)).mono ?_;rintro e w6 ⟨rfl,hu⟩;have HU6:=Lib.hid (HU5.out.trans hu);have hb:=boxT w6 (.int .i64 0) (.slice none 0 0);have z0:=hb.1;have z1:=hb.2;clear hu hb;go_wp2_with fail;go_ret;exact ⟨rfl,HU6.out.alloc _⟩
end Go.Proofs.YtlkgkojidclncaaGreat
namespace Go.Proofs.YtlkgkojidclncaaGreat
open Go.ChangeShapes Go.WideShapes Go.ChangeAt Go.RowKit
theorem own_knob:ownKnob Tryz.prog.godebug=none:=by kernel_rfl
theorem laid_out:laidOutB Tryz.prog=true:=by kernel_rfl
theorem okWide_row {P:Program} {w:World} {r:Reach} {base:Nat} {t:TypeId} {v:Value} {fs:Array Field} (ht:P.underlying t=some (.struct fs)) (h:Value.okWide P w r base t v):∃ cs,v=.agg cs/\cs.size=P.cellsOf t/\Row.okWide P w r base t cs:=by
 unfold Value.okWide at h;rw [ht] at h;exact h
theorem stateSize:Tryz.prog.cellsOf 80=4:=by kernel_rfl
theorem intSize:Tryz.prog.cellsOf 3=1:=by kernel_rfl
theorem u64Size:Tryz.prog.cellsOf 75=1:=by kernel_rfl
theorem intsSize:Tryz.prog.cellsOf 23=1:=by kernel_rfl
theorem u64sSize:Tryz.prog.cellsOf 53=1:=by kernel_rfl
theorem wf_u64 {x:Int} (h:(Lit.int .u64 x).wf=true):U64 x:=by
 simp only [Lit.wf,Bool.and_eq_true,decide_eq_true_eq] at h
 have e1:IntKind.u64.min=0:=rfl;have e2:IntKind.u64.max=18446744073709551615:=rfl;unfold U64;omega
theorem RowOf.of_ints {H:Type} {W:World} {k:IntKind} {cs:List Value} {x:DataW H × List MemPlace}
  (h:(cs=[.slice none 0 0]/\x=(.nil,[])) \/
  ∃ (a:Addr) (len cap:Nat) (zs:List Int),cs=[.slice (some a) len cap]/\0<=a.block/\len<=cap/\cap<=maxLen/\zs.length=(if (fun _:Nat=>true) a.block then cap else len) /\
   x=(.slice (lits k (zs.take len)) (lits k (zs.drop len)),MemPlace.row a zs.length) /\
   (∀ i,i<zs.length->W.cell? (a.add i)=some (.int k (zs.getD i 0)))/\(∀ n∈zs,(Lit.int k n).wf=true)) :
  ∃ (a:Option Addr) (n c:Nat) (Zs:List Int),cs=[.slice a n c]/\RowOf W k a n Zs/\∀ z,z∈Zs->(Lit.int k z).wf=true:=by
 rcases h with ⟨rfl,_⟩ | ⟨a,len,cap,zs,rfl,_,hl,hm,hz,_,hc,hw⟩
 ·exact ⟨none,0,0,[],rfl,⟨rfl,Nat.zero_le _,fun i hi=>by omega⟩,fun z hz=>by cases hz⟩
 ·have hz':zs.length=cap:=by simpa using hz
  refine ⟨some a,len,cap,zs.take len,rfl,⟨by rw [List.length_take];omega,by omega,fun i hi=>⟨a,rfl,?_⟩⟩,fun z hz=>hw z (List.mem_of_mem_take hz)⟩;rw [hc i (by omega),List.getD_eq_getElem?_getD,List.getD_eq_getElem?_getD,List.getElem?_take_of_lt hi]
theorem state_shape {H:Type} {enc:TypeId × Value->H} {W:World} {r:Reach} {base:Nat} {v:Value} {d:DataW H} {p:List MemPlace} (h:Value.okWide Tryz.prog W r base 80 v) (hd:DataW.Trod enc Tryz.prog W 0 (fun _=>true) true 80 v d p) :
  ∃ (n room:Int) (la wa:Option Addr) (ln lc wn wk:Nat) (Ls Ws:List Int),v=.agg #[.int .i64 n,.int .i64 room,.slice la ln lc,.slice wa wn wk]/\RowOf W .i64 la ln Ls/\RowOf W .u64 wa wn Ws/\∀ x,x∈Ws->U64 x:=by
 obtain ⟨cs,rfl,hsz,_⟩:=okWide_row Tryz.underlying80 h;obtain ⟨fuel,hd⟩:=hd;have hsz:=hsz.trans stateSize;obtain ⟨l⟩:=cs
 match l,hsz with
 | [c0,c1,c2,c3],_ =>
  obtain ⟨ys,m,_,_,_,hl,hf⟩:=Go.DataW.trod_struct Tryz.underlying80 hd
  match ys,hl with
  | [y0,y1,y2,y3],_ =>
   have h0:=hf 0 _ rfl;have h1:=hf 1 _ rfl;have h2:=hf 2 _ rfl;have h3:=hf 3 _ rfl
   simp [Value.cells,intSize,intsSize,u64sSize] at h0 h1 h2 h3
   obtain ⟨n,e0,_,_⟩:=Go.DataW.trod_int Tryz.underlying3 h0;obtain ⟨room,e1,_,_⟩:=Go.DataW.trod_int Tryz.underlying3 h1;obtain ⟨la,ln,lc,Ls,e2,hL,_⟩:=RowOf.of_ints (open_ints Tryz.underlying23 Tryz.underlying3 intSize h2);obtain ⟨wa,wn,wk,Ws,e3,hW,hU⟩:=RowOf.of_ints (open_ints Tryz.underlying53 Tryz.underlying75 u64Size h3)
   simp at e0 e1 e2 e3
   subst e0 e1 e2 e3;exact ⟨n,room,la,wa,ln,lc,wn,wk,Ls,Ws,rfl,hL,hW,fun x hx=>wf_u64 (hU x hx)⟩
end Go.Proofs.YtlkgkojidclncaaGreat
namespace Go.Proofs.YtlkgkojidclncaaGreat
open Go.RowKit Go.Maps Go.ChangeMaps Go.WideShapes
structure DeadQ (K:KV) (w:World) (e:Ending) (w':World):Prop where
 ex:∃ r:Nat,e=.returned (.tuple #[.int .u32 r,.bool true])/\K.A.tk r=false/\r<=4294967295/\Upd [] w w'
theorem dead_ref (b:Nat) (i:Int) (K:KV) (T:List DM) (q:KPtr) (w:World) (h:KerIn w b K T q) :
  Calls Tryz.prog 52 #[.pointer (some ⟨b,0,none⟩),.int .i64 i] w fun e w'=>DeadQ K w e w':=by
 obtain ⟨u,hu,hu2⟩ : ∃ u:Nat,IntKind.u32.wrap i=(u:Int)/\u<4294967296:=⟨(IntKind.u32.wrap i).toNat,by
  have e:IntKind.u32.wrap i=i % 4294967296:=rfl
  rw [e];omega,by
  have e:IntKind.u32.wrap i=i % 4294967296:=rfl
  rw [e];omega⟩
 obtain ⟨x,hx,hx2⟩ : ∃ x:Nat,(u:Int).tmod 97=(x:Int)/\x<97:=⟨u % 97,by rw [Int.tmod_eq_emod_of_nonneg (by omega)];omega,Nat.mod_lt _ (by omega)⟩
 obtain ⟨y,hy,hy2⟩ : ∃ y:Nat,IntKind.u32.wrap ((x:Int)*44221)=(y:Int)/\y<=4245216:=⟨x*44221,by
  have e:IntKind.u32.wrap ((x:Int)*44221)=((x:Int)*44221) % 4294967296:=rfl
  rw [e];omega,by omega⟩
 obtain ⟨r,hr,hr1,hr2⟩ : ∃ r:Nat,IntKind.u32.wrap ((y:Int)+2097152)=(r:Int)/\2097152<=r/\r<=4294967295:=⟨y+2097152,by
  have e:IntKind.u32.wrap ((y:Int)+2097152)=((y:Int)+2097152) % 4294967296:=rfl
  rw [e];omega,by omega,by omega⟩
 have hd:K.A.tk r=false:=by
  cases hc:K.A.tk r with
  | false=>rfl
  | true=>have:=h.ok.ref_lt hc;omega
 have HN:=Lib.hid (nodeof_no b r K T q w h.mem hr2 hd);have HD:=Lib.hid (And.intro hd hr2);clear h hd
 go_enter Tryz.func52,Tryz.ntmps52
 go_wp2_with fail;refine HN.out.mono ?_;rintro e w1 ⟨rfl,hu1⟩;have HU:=Lib.hid hu1;clear hu1 HN;go_wp2_with fail;go_ret2;exact ⟨r,rfl,HD.out.1,HD.out.2,HU.out.alloc _⟩
theorem ref_n (n:Int):∃ v:Nat,wrap64 (17+wrap64 ((IntKind.u64.wrap n).tmod 48))=(v:Int)/\17<=v/\v<=64:=by
 have h0:0<=IntKind.u64.wrap n:=by rw [IntKind.wrap_u64];omega
 have e:(IntKind.u64.wrap n).tmod 48=(IntKind.u64.wrap n) % 48:=Int.tmod_eq_emod_of_nonneg h0;rw [e];have e1:wrap64 ((IntKind.u64.wrap n) % 48)=(IntKind.u64.wrap n) % 48:=IntWalk.wrap64_in _ (by omega);rw [e1,IntWalk.wrap64_in _ (by omega)];exact ⟨(17+IntKind.u64.wrap n % 48).toNat,by omega,by omega,by omega⟩
theorem countRefused_walk (n room iI xI nI:Int) (la wa:Option Addr) (ln lc wn wk:Nat) (Ls Ws:List Int) (w:World) (hL:RowOf w .i64 la ln Ls) (hW:RowOf w .u64 wa wn Ws) (hU:∀ x,x∈Ws->U64 x) :
  Calls Tryz.prog 13 #[.agg #[.int .i64 n,.int .i64 room,.slice la ln lc,.slice wa wn wk],.int .i64 iI,.int .u64 xI,.int .i64 nI] w fun e w'=>e=.returned (.bool true)/\Upd [] w w':=by
 have HLD:Hid (∀ x:World,Upd [] w x->Calls Tryz.prog 33 #[.agg #[.int .i64 n,.int .i64 room,.slice la ln lc,.slice wa wn wk]] x fun e w'=>LaidQ room x e w'):=fun x u =>
  laid_spec n room la wa ln lc wn wk Ls Ws x (hL.keep0 u) (hW.keep0 u) hU
 have HU0:=Lib.hid ((Upd.refl [] w).alloc (.cells #[.int .i64 n,.int .i64 room,.slice la ln lc,.slice wa wn wk] 80 (0,0)));have hfld:=fldT
 obtain ⟨r0,hr0⟩ : ∃ r0:Nat,IntKind.u32.wrap iI=(r0:Int):=⟨(IntKind.u32.wrap iI).toNat,by
  have e:IntKind.u32.wrap iI=iI % 4294967296:=rfl
  rw [e];omega⟩
 obtain ⟨nn,hnn,hn17,hn64⟩:=ref_n nI;clear hL hW hU
 go_enter Tryz.func13,Tryz.ntmps13
 go_wp2_with fail;refine (HLD.out _ HU0.out).mono ?_;rintro e w1 hE;obtain ⟨b,m,_,_,K,F,M,p,refs,tabs,rfl,hm,hlg,_,_,hu,_,_,_,_,hkt,hmt⟩:=hE.ex;obtain ⟨xa,xc,rfl,_⟩:=row_nil_len hm.rr;obtain ⟨ya,yc,rfl,_⟩:=hm.tt.form;have e0:worldV b m (.slice xa refs.length xc) (.slice ya tabs.length yc)=.agg #[.pointer (some ⟨b,0,none⟩),.pointer (some ⟨m,0,none⟩),.slice xa refs.length xc,.slice ya tabs.length yc]:=rfl;rw [e0];have hbx:=boxW w1 (.pointer (some ⟨b,0,none⟩)) (.pointer (some ⟨m,0,none⟩)) (.slice xa refs.length xc) (.slice ya tabs.length yc);have hu2:Upd [] w1 (w1.alloc (.cells #[.pointer (some ⟨b,0,none⟩),.pointer (some ⟨m,0,none⟩),.slice xa refs.length xc,.slice ya tabs.length yc] 82 (0,0))):=(Upd.refl _ _).alloc _;obtain ⟨wA,hwA⟩ : ∃ wA,w1.alloc (.cells #[.pointer (some ⟨b,0,none⟩),.pointer (some ⟨m,0,none⟩),.slice xa refs.length xc,.slice ya tabs.length yc] 82 (0,0))=wA:=⟨_,rfl⟩;rw [hwA] at hbx hu2;have HWA:=Lib.hid hwA;have HUA:=Lib.hid ((HU0.out.trans hu).trans hu2)
 have HX:Hid (∀ x:World,Upd [] wA x->x.cell? ⟨w1.heap.size,0,none⟩=some (.pointer (some ⟨b,0,none⟩))/\x.cell? ⟨w1.heap.size,1,none⟩=some (.pointer (some ⟨m,0,none⟩))/\x.cell? ⟨w1.heap.size,2,none⟩=some (.slice xa refs.length xc)/\x.cell? ⟨w1.heap.size,3,none⟩=some (.slice ya tabs.length yc)):=fun x u =>
  ⟨u.cell0 hbx.1,u.cell0 hbx.2.1,u.cell0 hbx.2.2.1,u.cell0 hbx.2.2.2⟩
 have HWM:Hid (∀ x:World,Upd [] wA x->WMem x b m (.slice xa refs.length xc) (.slice ya tabs.length yc) K F M p refs tabs):=fun x u=>hm.keep0 (hu2.trans u)
 have HST:Hid (∀ x:World,Upd [] wA x->Calls Tryz.prog 53 #[.agg #[.pointer (some ⟨b,0,none⟩),.pointer (some ⟨m,0,none⟩),.slice xa refs.length xc,.slice ya tabs.length yc]] x fun e w'=>e=.returned (.bool true)/\Upd [] x w'):=fun x u =>
  stands_spec b m (.slice xa refs.length xc) (.slice ya tabs.length yc) K F M p refs tabs x (WIn.of (HWM.out x u) hlg) (by rw [hkt,hmt]) (by rw [hmt];simp)
 clear hE hm hlg hu hkt hmt e0 hbx hu2 hwA HLD HU0;go_upto_region 2 with fail;rw [HWA.out];generalize w1.heap.size=a at *;go_wp2_with fail;refine (awake12_spec _).mono ?_;rintro e wB ⟨rfl,hu⟩;have HUB:=Lib.hid hu;clear hu;go_wp2_with fail;refine (none_spec none r0 xI 10 wB (NoAns.nil r0 wB)).mono ?_;rintro e wC ⟨rfl,hu⟩;have HUC:=Lib.hid (HUB.out.trans hu);obtain ⟨c0,c1,c2,c3⟩:=HX.out wC HUC.out;obtain ⟨T,q,hk,_⟩:=(HWM.out wC HUC.out).ker;have HK:=Lib.hid hk;clear hu hk;go_wp2_with fail;refine (dead_ref b iI K T q wC HK.out).mono ?_;rintro e wD hE;obtain ⟨r,rfl,hd,hr32,hu⟩:=hE.ex;have HKD:=Lib.hid (NoAns.dead (HK.out.upd hu (by simp)) hd hr32);have HUD:=Lib.hid (HUC.out.trans hu);have d0:=hu.cell0 c0;clear hE hd hr32 hu c0 c1 c2 c3;go_wp2_with fail;refine (none_spec (some ⟨b,0,none⟩) r xI 3 wD HKD.out).mono ?_;rintro e wE ⟨rfl,hu⟩;have HUE:=Lib.hid (HUD.out.trans hu);clear hu d0;go_wp2_with fail;refine (knew_spec nn 9 wE (by omega) hn64 (by omega) (by omega)).mono ?_;rintro e wF ⟨b2,T2,q2,rfl,hk2,hu,_⟩;have HUF:=Lib.hid (HUE.out.trans hu);have HK2:=Lib.hid hk2;clear hu hk2;go_wp2_with fail;refine (ctable_vars b2 1 (KV.new nn 9) T2 q2 wF HK2.out (HK2.out.ok.tk_const (by omega)) (show 16<nn by omega)).mono ?_;rintro e wG ⟨rfl,hu⟩;have HUG:=Lib.hid (HUF.out.trans hu);have hb:=boxT wG (.int .i64 0) (.slice none 0 0);have HUH:=Lib.hid (HUG.out.alloc (.cells #[.int .i64 0,.slice none 0 0] 110 (0,0)));have z0:=hb.1;have z1:=hb.2;obtain ⟨c0,c1,c2,c3⟩:=HX.out _ HUH.out;clear hu hb;go_wp2_with fail;refine (HST.out _ HUH.out).mono ?_;rintro e wI ⟨rfl,hu⟩;have HUI:=Lib.hid (HUH.out.trans hu);clear hu;go_wp2_with fail;go_ret;exact ⟨rfl,HUA.out.trans HUI.out⟩
end Go.Proofs.YtlkgkojidclncaaGreat
