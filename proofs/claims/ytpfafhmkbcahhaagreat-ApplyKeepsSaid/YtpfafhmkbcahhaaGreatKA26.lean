import Derived.Test.YtpfafhmkbcahhaaGreatKA25
import Derived.Test.YtpfafhmkbcahhaaGreatKA23
import Derived.Test.YtpfafhmkbcahhaaGreatKA21
import Derived.WalkKit
import Derived.ProofKit
import Derived.OpenShut
import Derived.ShutString
import Derived.ChangeOld
import Derived.ChangeSlices
import Derived.Below
set_option maxRecDepth 100000
set_option maxHeartbeats 3200000
namespace Go.Proofs.YtpfafhmkbcahhaaGreat
open Go.RowKit Go.Maps Go.ChangeMaps Go.WideShapes
theorem rdany_spec (m n1:Nat) (M:MV) (p:MPtr) (Z:List Nat) (lv:Value) (tabs:List TV) (w:World) (h:ModIn w m M p Z) (hZ:∀ k,k∈Z->k<w.heap.size) (hf:M.Fit) (hc:M.Cnt) (hE0:M.ansE (constT M.n false)=0) (hic:(constT M.n false).isC=true)
  (hv:TLs w n1 Z lv tabs) (hlen:tabs.length<=1000) (hlive:∀ t,t∈tabs->M.isLive t=true) (htn:∀ t,t∈tabs->t.n=M.n) (hhl:M.held.length+1001<=65536) :
  Calls Tryz.prog 124 #[.pointer (some ⟨m,0,none⟩),lv] w fun e w'=>RfdQ m 14 M p Z (constT M.n false) tabs w e w':=by
 obtain ⟨la,lc,rfl,_⟩:=hv.form
 have hn16:M.n<=16:=by have:=hf.n6;omega
 have HF:Hid (∀ (c0:Value) z,Upd [] w z->TIn z Z c0 (constT M.n false)->Calls Tryz.prog 194 #[.pointer (some ⟨m,0,none⟩),.int .u8 14,tabV (constT M.n false) c0,.slice la tabs.length lc] z fun e w'=>RfdQ m 14 M p Z (constT M.n false) tabs z e w'):=fun c0 z u h0 =>
  rfold_spec m 14 n1 M p Z c0 _ _ tabs z (h.keep0 u) (fun k hk=>Nat.lt_of_lt_of_le (hZ k hk) u.size) hf hc h0 rfl hE0 hic (hv.keep0 u) hlen hlive htn (by omega) hhl
 have c0:=h.cells.1;have HB:=Lib.hid (heap_alloc_new w (.cells #[.int .i64 0,.slice none 0 0] 56 (0,0)));have HU0:=Lib.hid ((Upd.refl [] w).alloc (.cells #[.int .i64 0,.slice none 0 0] 56 (0,0)));have d0:=HU0.out.cell0 c0
 have HP:Hid (∀ k,k∈p.all m->k<w.heap.size):=fun k hk=>hZ k (h.sz k hk)
 have HZ:=Lib.hid hZ;have HMP:Hid (m∈p.all m):=MPtr.mem.2 (.inl rfl);clear h hZ hf hc hE0 hic hv hlen hlive htn hhl c0
 go_enter Tryz.func124,Tryz.ntmps124
 go_wp2_with fail;refine (tconst_spec M.n false _ hn16).mono ?_;rintro e w2 hE;obtain ⟨cc,rfl,hT,hu⟩:=hE.ex;obtain ⟨ca,cd,rfl,_⟩:=row_nil_len hT.row;have HU2:=Lib.hid (HU0.out.trans hu);have HUB:=Lib.hid hu;have HFC:=Lib.hid (HF.out _ w2 HU2.out (hT.tin fun k hk=>Nat.lt_of_lt_of_le (HZ.out k hk) HU0.out.size));have htv:tabV (constT M.n false) (.slice ca (constT M.n false).ws.length cd)=.agg #[.int .i64 M.n,.slice ca (constT M.n false).ws.length cd]:=rfl;rw [htv] at HFC ⊢;clear hE hT hu htv d0;generalize (constT M.n false).ws.length=cw at *;go_wp2_with fail;refine HFC.out.mono ?_;rintro e w3 hQ;have hb2:=(HUB.out.block w.heap.size (heap_lt HB.out) (by simp)).trans HB.out
 have hnB:w.heap.size∉p.all m:=fun hk=>Nat.lt_irrefl _ (HP.out _ hk)
 obtain ⟨R,hR⟩ : ∃ R,foldM 14 { M with trail:=[] } (constT M.n false) tabs=R:=⟨_,rfl⟩;have HRR:=Lib.hid hR;have hyes:=hQ.yes;have hno:=hQ.no;rw [hR] at hyes hno
 by_cases he:R.e=0
 ·obtain ⟨c,q,rfl,q1,q2,q3,q4⟩:=hyes he
  obtain ⟨xa,xc,rfl,_⟩:=row_nil_len q2.row;have hb3:=(q3.block w.heap.size (heap_lt hb2) hnB).trans hb2;have z0:=cell_at (j:=0) hb3 rfl;have z1:=cell_at (j:=1) hb3 rfl;have f0:=frozen_at 0 hb3;have f1:=frozen_at 1 hb3;have htv:tabV R.a (.slice xa R.a.ws.length xc)=.agg #[.int .i64 R.a.n,.slice xa R.a.ws.length xc]:=rfl
  have HFIN:Hid (∀ z,Upd [w.heap.size] w3 z->RfdQ m 14 M p Z (constT M.n false) tabs w (.returned (.tuple #[.agg #[.int .i64 R.a.n,.slice xa R.a.ws.length xc],.int .i64 0])) z):=fun z u=>by
   refine ⟨fun _=>?_,fun hne=>absurd (by rw [HRR.out];exact he) hne⟩;rw [HRR.out];refine ⟨_,q,by rw [htv],q1.box hb3 u,q2.box hb3 u,((HU2.out.mono (by simp)).trans q3).then u fun k hk=>.inr (by simp at hk;omega),fun k hk=>?_⟩
   rcases q4 k hk with h | h
   ·exact .inl h
   ·right;have:=HU2.out.size;omega
  have HR3:Hid (∀ z:World,z.heap[w.heap.size]?=some (.cells #[.int .i64 0,.slice none 0 0] 56 (0,0))->((z.setCell ⟨w.heap.size,0,none⟩ (.int .i64 R.a.n)).setCell ⟨w.heap.size,1,none⟩ (.slice xa R.a.ws.length xc)).heap[w.heap.size]?=some (.cells #[.int .i64 R.a.n,.slice xa R.a.ws.length xc] 56 (0,0))):=fun z hz=>by
   rw [heap_set_eq (heap_set_eq hz _) _];rfl
  have H3:=Lib.hid hb3;rw [htv];generalize R.a.ws.length=rw' at *;generalize R.a.n=rn at *;clear hQ hyes hno he q1 q2 q3 q4 hb2 hb3 hnB hR htv;generalize hB4:w.heap.size=B4 at *;go_wp2_with fail;refine bodyPost_ret (ret_rep rfl _ _ B4 #[.int .i64 rn,.slice xa rw' xc] (.int .i64 0) _ rfl rfl (HR3.out _ H3.out) Tryz.underlying56 rfl Tryz.infoTabS) rfl (HFIN.out _ (((Upd.refl _ _).setCell (.inl (by simp)) _).setCell (.inl (by simp)) _))
 ·obtain ⟨rfl,hn,hup⟩:=hno he
  have hb3:=(hup.block w.heap.size (heap_lt hb2) hnB).trans hb2;have z0:=cell_at (j:=0) hb3 rfl;have z1:=cell_at (j:=1) hb3 rfl;have f0:=frozen_at 0 hb3;have f1:=frozen_at 1 hb3
  have HFIN:Hid (∀ z,Upd [w.heap.size] w3 z->RfdQ m 14 M p Z (constT M.n false) tabs w (.returned (.tuple #[.agg #[.int .i64 0,.slice none 0 0],.int .i64 R.e])) z):=fun z u=>by
   have hmw:w.heap.size≠m:=fun e=>hnB (by rw [e];exact HMP.out)
   refine ⟨fun h0=>absurd (by rw [HRR.out] at h0;exact h0) he,fun _=>?_⟩;rw [HRR.out];refine ⟨rfl,⟨fun y uy=>?_,?_⟩,((HU2.out.mono (by simp)).trans hup).then u fun k hk=>.inr (by simp at hk;omega)⟩
   ·have h1:=ModE.pre HU2.out (hn.md _ (Upd.refl _ _))
    have h2:=h1.box (w2:=z.setCell ⟨m,4,none⟩ (.slice none 0 0)) (by rw [heap_set_ne hmw];exact hb3) (u.setBoth hmw) (Nat.le_refl _);exact h2.keep uy
   ·obtain ⟨v,cs,h1,h2⟩:=hn.tv
    exact ⟨v,cs,(u.block m (heap_lt h1) (by simp;exact fun e=>hmw e.symm)).trans h1,h2⟩
  have HR3:Hid (∀ z:World,z.heap[w.heap.size]?=some (.cells #[.int .i64 0,.slice none 0 0] 56 (0,0))->((z.setCell ⟨w.heap.size,0,none⟩ (.int .i64 0)).setCell ⟨w.heap.size,1,none⟩ (.slice none 0 0)).heap[w.heap.size]?=some (.cells #[.int .i64 0,.slice none 0 0] 56 (0,0))):=fun z hz=>by
   rw [heap_set_eq (heap_set_eq hz _) _];rfl
  have H3:=Lib.hid hb3;generalize R.e=re at *;clear hQ hyes hno he hn hup hb2 hb3 hnB hR;generalize hB4:w.heap.size=B4 at *;go_wp2_with fail;refine bodyPost_ret (ret_rep rfl _ _ B4 #[.int .i64 0,.slice none 0 0] (.int .i64 re) _ rfl rfl (HR3.out _ H3.out) Tryz.underlying56 rfl Tryz.infoTabS) rfl (HFIN.out _ (((Upd.refl _ _).setCell (.inl (by simp)) _).setCell (.inl (by simp)) _))
structure SlotQ (Z:List Nat) (M:MV) (refs:List Nat) (tabs:List TV) (w:World) (e:Ending) (w':World):Prop where
 ex:∃ (j r:Nat) (t:TV) (a:Option Addr) (n c:Nat),e=.returned (.tuple #[.int .u32 r,tabV t (.slice a n c),.bool (M.isLive t)])/\refs[j]?=some r/\tabs[j]?=some t/\TIn w' Z (.slice a n c) t/\Upd [] w w'
theorem slot_set {x:World} {W rg tg j k:Nat} {v1 v2 v3 y0 y1 y2:Value} (h:(x.cell? ⟨W,1,none⟩=some v1/\x.cell? ⟨W,2,none⟩=some v2/\x.cell? ⟨W,3,none⟩=some v3)/\x.cell? ⟨rg,j,none⟩=some y0/\x.cell? ⟨tg,k,none⟩=some y1/\x.cell? ⟨tg,k+1,none⟩=some y2) (hl:rg<W/\tg<W) (a b:Value) :
  (((x.setCell ⟨W+1,0,none⟩ a).setCell ⟨W+1,1,none⟩ b).cell? ⟨W,1,none⟩=some v1/\((x.setCell ⟨W+1,0,none⟩ a).setCell ⟨W+1,1,none⟩ b).cell? ⟨W,2,none⟩=some v2/\((x.setCell ⟨W+1,0,none⟩ a).setCell ⟨W+1,1,none⟩ b).cell? ⟨W,3,none⟩=some v3)/\((x.setCell ⟨W+1,0,none⟩ a).setCell ⟨W+1,1,none⟩ b).cell? ⟨rg,j,none⟩=some y0/\((x.setCell ⟨W+1,0,none⟩ a).setCell ⟨W+1,1,none⟩ b).cell? ⟨tg,k,none⟩=some y1/\((x.setCell ⟨W+1,0,none⟩ a).setCell ⟨W+1,1,none⟩ b).cell? ⟨tg,k+1,none⟩=some y2:=by
 have key:∀ {B o:Nat} {v:Value},B≠W+1->x.cell? ⟨B,o,none⟩=some v->((x.setCell ⟨W+1,0,none⟩ a).setCell ⟨W+1,1,none⟩ b).cell? ⟨B,o,none⟩=some v:=fun {B o v} hB hv=>by
  have e1:((x.setCell ⟨W+1,0,none⟩ a).setCell ⟨W+1,1,none⟩ b).heap[B]?=x.heap[B]?:=(heap_set_ne hB).trans (heap_set_ne hB);exact (World.cell?_of_block (a:=⟨B,o,none⟩) e1).trans hv
 exact ⟨⟨key (by omega) h.1.1,key (by omega) h.1.2.1,key (by omega) h.1.2.2⟩,key (by omega) h.2.1,key (by omega) h.2.2.1,key (by omega) h.2.2.2⟩
theorem slot_spec (b m:Nat) (rv tv:Value) (K:KV) (F:List Nat) (M:MV) (p:MPtr) (refs:List Nat) (tabs:List TV) (i:Int) (w:World) (h:WMem w b m rv tv K F M p refs tabs) (l:WLog K M refs tabs) :
  Calls Tryz.prog 26 #[worldV b m rv tv,.int .i64 i] w fun e w'=>SlotQ (F++p.all m) M refs tabs w e w':=by
 obtain ⟨ra,rc,hrv,hra⟩:=row_nil_len h.rr;obtain ⟨ta,tc,htv,hta⟩:=h.tt.form;subst hrv htv;have HW:=Lib.hid h;have HLG:=Lib.hid l;have hrb:=l.rb;have hlr:=l.lr
 have hpos:0<refs.length:=by
  obtain ⟨rest,hr⟩:=l.t2
  rw [hlr,hr];simp
 obtain ⟨rg,rfl⟩:=row_some h.rr hpos;obtain ⟨tg,rfl⟩:=hta (by omega);have HBX:=Lib.hid (boxW w (.pointer (some ⟨b,0,none⟩)) (.pointer (some ⟨m,0,none⟩)) (.slice (some ⟨rg,0,none⟩) refs.length rc) (.slice (some ⟨tg,0,none⟩) tabs.length tc));have HU0:=Lib.hid (((Upd.refl [] w).alloc (.cells #[.pointer (some ⟨b,0,none⟩),.pointer (some ⟨m,0,none⟩),.slice (some ⟨rg,0,none⟩) refs.length rc,.slice (some ⟨tg,0,none⟩) tabs.length tc] 31 (0,0))).alloc (.cells #[.int .i64 0,.slice none 0 0] 56 (0,0)));unfold worldV
 obtain ⟨j,hj,hjl⟩ : ∃ j:Nat,wrap64 ((IntKind.u64.wrap i).tmod (tabs.length:Int))=j/\j<tabs.length:=by
  have h0:=(u64_wrap_nonneg i).1;rw [Int.tmod_eq_emod_of_nonneg h0];have h1:0<=(IntKind.u64.wrap i) % (tabs.length:Int):=Int.emod_nonneg _ (by omega);have h2:(IntKind.u64.wrap i) % (tabs.length:Int)<tabs.length:=Int.emod_lt_of_pos _ (by omega);exact ⟨((IntKind.u64.wrap i) % (tabs.length:Int)).toNat,by unfold wrap64;omega,by omega⟩
 obtain ⟨r,hr⟩ : ∃ r,refs[j]?=some r:=⟨_,List.getElem?_eq_getElem (by omega)⟩;obtain ⟨t,ht⟩ : ∃ t,tabs[j]?=some t:=⟨_,List.getElem?_eq_getElem hjl⟩;have q0:w.cell? ⟨rg,j,none⟩=some (.int .u32 r):=row_cell HW.out.rr (flatRefs_get hr);obtain ⟨ct,q1,q2,hti⟩:=HW.out.tt.at_ ht;obtain ⟨ca,cc,hct,_⟩:=row_nil_len hti.row;subst hct;have HT:=Lib.hid (And.intro hti (And.intro hr ht))
 have HLV:Hid (∀ x:World,Upd [] w x->Calls Tryz.prog 108 #[.pointer (some ⟨m,0,none⟩),.agg #[.int .i64 t.n,.slice ca t.ws.length cc]] x fun e w'=>e=.returned (.bool (M.isLive t))/\Upd [] x w'):=fun x u =>
  islive_spec m M p (F++p.all m) _ t x (HW.out.mod.keep0 u) (fun k hk=>Nat.lt_of_lt_of_le (HW.out.z k hk) u.size) HLG.out.fit (HT.out.1.keep0 u)
 obtain ⟨w0,hw0⟩ : ∃ w0,(w.alloc (.cells #[.pointer (some ⟨b,0,none⟩),.pointer (some ⟨m,0,none⟩),.slice (some ⟨rg,0,none⟩) tabs.length rc,.slice (some ⟨tg,0,none⟩) tabs.length tc] 31 (0,0))).alloc (.cells #[.int .i64 0,.slice none 0 0] 56 (0,0))=w0:=⟨_,rfl⟩;rw [hlr] at HBX HU0;rw [hw0] at HU0
 have hrs:w0.heap[w.heap.size+1]?=some (.cells #[.int .i64 0,.slice none 0 0] 56 (0,0)):=by
  have h:=heap_alloc_new (w.alloc (.cells #[.pointer (some ⟨b,0,none⟩),.pointer (some ⟨m,0,none⟩),.slice (some ⟨rg,0,none⟩) tabs.length rc,.slice (some ⟨tg,0,none⟩) tabs.length tc] 31 (0,0))) (.cells #[.int .i64 0,.slice none 0 0] 56 (0,0))
  rw [World.size_alloc] at h;rw [<- hw0];exact h
 have HK:Hid (∀ x:World,Upd [] w0 x->(x.cell? ⟨w.heap.size,1,none⟩=some (.pointer (some ⟨m,0,none⟩))/\x.cell? ⟨w.heap.size,2,none⟩=some (.slice (some ⟨rg,0,none⟩) tabs.length rc)/\x.cell? ⟨w.heap.size,3,none⟩=some (.slice (some ⟨tg,0,none⟩) tabs.length tc)) /\
   x.cell? ⟨rg,j,none⟩=some (.int .u32 r)/\x.cell? ⟨tg,j*2,none⟩=some (.int .i64 t.n)/\x.cell? ⟨tg,j*2+1,none⟩=some (.slice ca t.ws.length cc)):=fun x u=>by
  have e1:=HBX.out.2.1;have e2:=HBX.out.2.2.1;have e3:=HBX.out.2.2.2
  have u1:Upd [] (w.alloc (.cells #[.pointer (some ⟨b,0,none⟩),.pointer (some ⟨m,0,none⟩),.slice (some ⟨rg,0,none⟩) tabs.length rc,.slice (some ⟨tg,0,none⟩) tabs.length tc] 31 (0,0))) x:=by rw [<- hw0] at u;exact ((Upd.refl _ _).alloc _).trans u
  exact ⟨⟨u1.cell0 e1,u1.cell0 e2,u1.cell0 e3⟩,(HU0.out.trans u).cell0 q0,(HU0.out.trans u).cell0 q1,(HU0.out.trans u).cell0 q2⟩
 have HRS:=Lib.hid hrs;have HW0:=Lib.hid hw0;obtain ⟨⟨b1,b2,b3⟩,_⟩:=HK.out w0 (Upd.refl _ _);generalize t.ws.length=TW at *;have htn:tabV t (.slice ca TW cc)=.agg #[.int .i64 t.n,.slice ca TW cc]:=rfl;have HTN:=Lib.hid htn;clear htn;generalize hn:t.n=n at *;have HN:=Lib.hid hn
 have hjl2:(j:Int)<(tabs.length:Int):=by omega
 have hpos2:¬ ((tabs.length:Int)=0):=by omega
 have HLTS:Hid (rg<w.heap.size/\tg<w.heap.size):=⟨World.block_lt_of_cell? _ _ q0,World.block_lt_of_cell? _ _ q1⟩;clear h l hn hti hr ht q0 q1 q2 hrs hw0
 go_enter Tryz.func26,Tryz.ntmps26
 go_wp2_with fail;rw [HW0.out,hj];clear hj
 go_region_held3 (fun x=>(x.cell? ⟨w.heap.size,1,none⟩=some (.pointer (some ⟨m,0,none⟩))/\x.cell? ⟨w.heap.size,2,none⟩=some (.slice (some ⟨rg,0,none⟩) tabs.length rc)/\x.cell? ⟨w.heap.size,3,none⟩=some (.slice (some ⟨tg,0,none⟩) tabs.length tc)) /\
   x.cell? ⟨rg,j,none⟩=some (.int .u32 r)/\x.cell? ⟨tg,j*2,none⟩=some (.int .i64 n)/\x.cell? ⟨tg,j*2+1,none⟩=some (.slice ca TW cc)) (first | exact HK.out _ (Upd.refl _ _).drew | exact HK.out _ HU2.out | exact HKS.out) (first
  | (go_at_call 108;refine (HLV.out _ HU0.out.drew).mono ?_;rintro e w2 ⟨rfl,hu⟩;have HU2:=Lib.hid hu.of_drew;clear hu;have hb2:=(HU2.out.block _ (heap_lt HRS.out) (by simp)).trans HRS.out;have f0:=frozen_at 0 hb2;have f1:=frozen_at 1 hb2;have g0:=cell_at (j:=0) hb2 rfl;have g1:=cell_at (j:=1) hb2 rfl;have HKS:=Lib.hid (slot_set (HK.out _ HU2.out) HLTS.out (.int .i64 n) (.slice ca TW cc));have HB2:=Lib.hid hb2;clear hb2))
 have hb9:=heap_set_eq (j:=1) (heap_set_eq (j:=0) HB2.out (.int .i64 n)) (.slice ca TW cc);have x0:=cell_at (j:=0) hb9 rfl;have x1:=cell_at (j:=1) hb9 rfl;clear hb9;go_wp2_with fail;refine bodyPost_ret (v:=.tuple #[.int .u32 r,.agg #[.int .i64 n,.slice ca TW cc],.bool (M.isLive t)]) (by simp [results,Tryz.results26,go_sem,x0,x1]) rfl ?_
 have hu9:Upd [] w ((w2.setCell ⟨w.heap.size+1,0,none⟩ (.int .i64 n)).setCell ⟨w.heap.size+1,1,none⟩ (.slice ca TW cc)) :=
  ((HU0.out.trans HU2.out).setCell (p:=⟨w.heap.size+1,0,none⟩) (.inr (Nat.le_succ _)) _).setCell (p:=⟨w.heap.size+1,1,none⟩) (.inr (Nat.le_succ _)) _
 exact ⟨j,r,t,ca,TW,cc,by rw [HTN.out],HT.out.2.1,HT.out.2.2,HT.out.1.keep0 hu9,hu9⟩
end Go.Proofs.YtpfafhmkbcahhaaGreat
namespace Go.Proofs.YtpfafhmkbcahhaaGreat
open Go.ChangeShapes Go.WideShapes Go.ChangeAt Go.RowKit
theorem own_knob:ownKnob Tryz.prog.godebug=none:=by kernel_rfl
theorem laid_out:laidOutB Tryz.prog=true:=by kernel_rfl
theorem okWide_row {P:Program} {w:World} {r:Reach} {base:Nat} {t:TypeId} {v:Value} {fs:Array Field} (ht:P.underlying t=some (.struct fs)) (h:Value.okWide P w r base t v):∃ cs,v=.agg cs/\cs.size=P.cellsOf t/\Row.okWide P w r base t cs:=by
 unfold Value.okWide at h;rw [ht] at h;exact h
theorem stateSize:Tryz.prog.cellsOf 25=4:=by kernel_rfl
theorem intSize:Tryz.prog.cellsOf 3=1:=by kernel_rfl
theorem u64Size:Tryz.prog.cellsOf 96=1:=by kernel_rfl
theorem intsSize:Tryz.prog.cellsOf 22=1:=by kernel_rfl
theorem u64sSize:Tryz.prog.cellsOf 23=1:=by kernel_rfl
theorem wf_u64 {x:Int} (h:(Lit.int .u64 x).wf=true):U64 x:=by
 simp only [Lit.wf,Bool.and_eq_true,decide_eq_true_eq] at h
 have e1:IntKind.u64.min=0:=rfl;have e2:IntKind.u64.max=18446744073709551615:=rfl;unfold U64;omega
theorem RowOf.of_ints {H:Type} {W:World} {k:IntKind} {cs:List Value} {x:DataW H × List MemPlace}
  (h:(cs=[.slice none 0 0]/\x=(.nil,[])) \/
  ∃ (a:Addr) (len cap:Nat) (zs:List Int),cs=[.slice (some a) len cap]/\0<=a.block/\len<=cap/\cap<=maxLen/\zs.length=(if (fun _:Nat=>true) a.block then cap else len) /\
   x=(.slice (lits k (zs.take len)) (lits k (zs.drop len)),MemPlace.row a zs.length) /\
   (∀ i,i<zs.length->W.cell? (a.add i)=some (.int k (zs.getD i 0)))/\(∀ n∈zs,(Lit.int k n).wf=true)) :
  ∃ (a:Option Addr) (n c:Nat) (Zs:List Int),cs=[.slice a n c]/\RowOf W k a n Zs/\∀ z,z∈Zs->(Lit.int k z).wf=true:=by
 rcases h with ⟨rfl,_⟩ | ⟨a,len,cap,zs,rfl,_,hl,hm,hz,_,hc,hw⟩
 ·exact ⟨none,0,0,[],rfl,⟨rfl,Nat.zero_le _,fun i hi=>by omega⟩,fun z hz=>by cases hz⟩
 ·have hz':zs.length=cap:=by simpa using hz
  refine ⟨some a,len,cap,zs.take len,rfl,⟨by rw [List.length_take];omega,by omega,fun i hi=>⟨a,rfl,?_⟩⟩,fun z hz=>hw z (List.mem_of_mem_take hz)⟩;rw [hc i (by omega),List.getD_eq_getElem?_getD,List.getD_eq_getElem?_getD,List.getElem?_take_of_lt hi]
theorem state_shape {H:Type} {enc:TypeId × Value->H} {W:World} {r:Reach} {base:Nat} {v:Value} {d:DataW H} {p:List MemPlace} (h:Value.okWide Tryz.prog W r base 25 v) (hd:DataW.Trod enc Tryz.prog W 0 (fun _=>true) true 25 v d p) :
  ∃ (n room:Int) (la wa:Option Addr) (ln lc wn wk:Nat) (Ls Ws:List Int),v=.agg #[.int .i64 n,.int .i64 room,.slice la ln lc,.slice wa wn wk]/\RowOf W .i64 la ln Ls/\RowOf W .u64 wa wn Ws/\∀ x,x∈Ws->U64 x:=by
 obtain ⟨cs,rfl,hsz,_⟩:=okWide_row Tryz.underlying25 h;obtain ⟨fuel,hd⟩:=hd;have hsz:=hsz.trans stateSize;obtain ⟨l⟩:=cs
 match l,hsz with
 | [c0,c1,c2,c3],_ =>
  obtain ⟨ys,m,_,_,_,hl,hf⟩:=Go.DataW.trod_struct Tryz.underlying25 hd
  match ys,hl with
  | [y0,y1,y2,y3],_ =>
   have h0:=hf 0 _ rfl;have h1:=hf 1 _ rfl;have h2:=hf 2 _ rfl;have h3:=hf 3 _ rfl
   simp [Value.cells,intSize,intsSize,u64sSize] at h0 h1 h2 h3
   obtain ⟨n,e0,_,_⟩:=Go.DataW.trod_int Tryz.underlying3 h0;obtain ⟨room,e1,_,_⟩:=Go.DataW.trod_int Tryz.underlying3 h1;obtain ⟨la,ln,lc,Ls,e2,hL,_⟩:=RowOf.of_ints (open_ints Tryz.underlying22 Tryz.underlying3 intSize h2);obtain ⟨wa,wn,wk,Ws,e3,hW,hU⟩:=RowOf.of_ints (open_ints Tryz.underlying23 Tryz.underlying96 u64Size h3)
   simp at e0 e1 e2 e3
   subst e0 e1 e2 e3;exact ⟨n,room,la,wa,ln,lc,wn,wk,Ls,Ws,rfl,hL,hW,fun x hx=>wf_u64 (hU x hx)⟩
end Go.Proofs.YtpfafhmkbcahhaaGreat
