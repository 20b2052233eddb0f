import Derived.Test.YtlkgkojidclncaaGreatTD25
import Derived.Test.YtlkgkojidclncaaGreatTD23
import Derived.Test.YtlkgkojidclncaaGreatTD20
import Derived.Test.YtlkgkojidclncaaGreatTD12
import Derived.Test.YtlkgkojidclncaaGreatTD22
import Derived.Test.YtlkgkojidclncaaGreatTD15
import Derived.Test.YtlkgkojidclncaaGreatTD11
import Derived.Test.YtlkgkojidclncaaGreatTD18
import Derived.WalkKit
import Derived.ProofKit
import Derived.OpenShut
import Derived.ShutString
import Derived.ChangeOld
import Derived.ChangeSlices
import Derived.Below
import Derived.BigQuiet
import Derived.Deep.RegionLaw
import Derived.Deep.AppendLies
import Derived.Laws.ResultCell
import Derived.Laws.Rows
set_option maxRecDepth 100000
set_option maxHeartbeats 3200000
namespace Go.Proofs.YtlkgkojidclncaaGreat
open Go.RowKit Go.Maps Go.ChangeMaps Go.WideShapes
structure SlotQ (Z:List Nat) (M:MV) (refs:List Nat) (tabs:List TV) (w:World) (e:Ending) (w':World):Prop where
 ex:∃ (j r:Nat) (t:TV) (a:Option Addr) (n c:Nat),e=.returned (.tuple #[.int .u32 r,tabV t (.slice a n c),.bool (M.isLive t)])/\refs[j]?=some r/\tabs[j]?=some t/\TIn w' Z (.slice a n c) t/\Upd [] w w'
theorem slot_set {x:World} {W rg tg j k:Nat} {v1 v2 v3 y0 y1 y2:Value} (h:(x.cell? ⟨W,1,none⟩=some v1/\x.cell? ⟨W,2,none⟩=some v2/\x.cell? ⟨W,3,none⟩=some v3)/\x.cell? ⟨rg,j,none⟩=some y0/\x.cell? ⟨tg,k,none⟩=some y1/\x.cell? ⟨tg,k+1,none⟩=some y2) (hl:rg<W/\tg<W) (a b:Value) :
  (((x.setCell ⟨W+1,0,none⟩ a).setCell ⟨W+1,1,none⟩ b).cell? ⟨W,1,none⟩=some v1/\((x.setCell ⟨W+1,0,none⟩ a).setCell ⟨W+1,1,none⟩ b).cell? ⟨W,2,none⟩=some v2/\((x.setCell ⟨W+1,0,none⟩ a).setCell ⟨W+1,1,none⟩ b).cell? ⟨W,3,none⟩=some v3)/\((x.setCell ⟨W+1,0,none⟩ a).setCell ⟨W+1,1,none⟩ b).cell? ⟨rg,j,none⟩=some y0/\((x.setCell ⟨W+1,0,none⟩ a).setCell ⟨W+1,1,none⟩ b).cell? ⟨tg,k,none⟩=some y1/\((x.setCell ⟨W+1,0,none⟩ a).setCell ⟨W+1,1,none⟩ b).cell? ⟨tg,k+1,none⟩=some y2:=by
 have key:∀ {B o:Nat} {v:Value},B≠W+1->x.cell? ⟨B,o,none⟩=some v->((x.setCell ⟨W+1,0,none⟩ a).setCell ⟨W+1,1,none⟩ b).cell? ⟨B,o,none⟩=some v:=fun {B o v} hB hv=>by
  have e1:((x.setCell ⟨W+1,0,none⟩ a).setCell ⟨W+1,1,none⟩ b).heap[B]?=x.heap[B]?:=(heap_set_ne hB).trans (heap_set_ne hB);exact (World.cell?_of_block (a:=⟨B,o,none⟩) e1).trans hv
 exact ⟨⟨key (by omega) h.1.1,key (by omega) h.1.2.1,key (by omega) h.1.2.2⟩,key (by omega) h.2.1,key (by omega) h.2.2.1,key (by omega) h.2.2.2⟩
theorem slot_spec (b m:Nat) (rv tv:Value) (K:KV) (F:List Nat) (M:MV) (p:MPtr) (refs:List Nat) (tabs:List TV) (i:Int) (w:World) (h:WMem w b m rv tv K F M p refs tabs) (l:WLog K M refs tabs) :
  Calls Tryz.prog 50 #[worldV b m rv tv,.int .i64 i] w fun e w'=>SlotQ (F++p.all m) M refs tabs w e w':=by
 obtain ⟨ra,rc,hrv,hra⟩:=row_nil_len h.rr;obtain ⟨ta,tc,htv,hta⟩:=h.tt.form;subst hrv htv;have HW:=Lib.hid h;have HLG:=Lib.hid l;have hrb:=l.rb;have hlr:=l.lr
 have hpos:0<refs.length:=by
  obtain ⟨rest,hr⟩:=l.t2
  rw [hlr,hr];simp
 obtain ⟨rg,rfl⟩:=row_some h.rr hpos;obtain ⟨tg,rfl⟩:=hta (by omega);have HBX:=Lib.hid (boxW w (.pointer (some ⟨b,0,none⟩)) (.pointer (some ⟨m,0,none⟩)) (.slice (some ⟨rg,0,none⟩) refs.length rc) (.slice (some ⟨tg,0,none⟩) tabs.length tc));have HU0:=Lib.hid (((Upd.refl [] w).alloc (.cells #[.pointer (some ⟨b,0,none⟩),.pointer (some ⟨m,0,none⟩),.slice (some ⟨rg,0,none⟩) refs.length rc,.slice (some ⟨tg,0,none⟩) tabs.length tc] 82 (0,0))).alloc (.cells #[.int .i64 0,.slice none 0 0] 110 (0,0)));unfold worldV
 obtain ⟨j,hj,hjl⟩ : ∃ j:Nat,wrap64 ((IntKind.u64.wrap i).tmod (tabs.length:Int))=j/\j<tabs.length:=by
  have h0:=(u64_wrap_nonneg i).1;rw [Int.tmod_eq_emod_of_nonneg h0];have h1:0<=(IntKind.u64.wrap i) % (tabs.length:Int):=Int.emod_nonneg _ (by omega);have h2:(IntKind.u64.wrap i) % (tabs.length:Int)<tabs.length:=Int.emod_lt_of_pos _ (by omega);exact ⟨((IntKind.u64.wrap i) % (tabs.length:Int)).toNat,by unfold wrap64;omega,by omega⟩
 obtain ⟨r,hr⟩ : ∃ r,refs[j]?=some r:=⟨_,List.getElem?_eq_getElem (by omega)⟩;obtain ⟨t,ht⟩ : ∃ t,tabs[j]?=some t:=⟨_,List.getElem?_eq_getElem hjl⟩;have q0:w.cell? ⟨rg,j,none⟩=some (.int .u32 r):=row_cell HW.out.rr (flatRefs_get hr);obtain ⟨ct,q1,q2,hti⟩:=HW.out.tt.at_ ht;obtain ⟨ca,cc,hct,_⟩:=row_nil_len hti.row;subst hct;have HT:=Lib.hid (And.intro hti (And.intro hr ht))
 have HLV:Hid (∀ x:World,Upd [] w x->Calls Tryz.prog 127 #[.pointer (some ⟨m,0,none⟩),.agg #[.int .i64 t.n,.slice ca t.ws.length cc]] x fun e w'=>e=.returned (.bool (M.isLive t))/\Upd [] x w'):=fun x u =>
  islive_spec m M p (F++p.all m) _ t x (HW.out.mod.keep0 u) (fun k hk=>Nat.lt_of_lt_of_le (HW.out.z k hk) u.size) HLG.out.fit (HT.out.1.keep0 u)
 obtain ⟨w0,hw0⟩ : ∃ w0,(w.alloc (.cells #[.pointer (some ⟨b,0,none⟩),.pointer (some ⟨m,0,none⟩),.slice (some ⟨rg,0,none⟩) tabs.length rc,.slice (some ⟨tg,0,none⟩) tabs.length tc] 82 (0,0))).alloc (.cells #[.int .i64 0,.slice none 0 0] 110 (0,0))=w0:=⟨_,rfl⟩;rw [hlr] at HBX HU0;rw [hw0] at HU0
 have hrs:w0.heap[w.heap.size+1]?=some (.cells #[.int .i64 0,.slice none 0 0] 110 (0,0)):=by
  have h:=heap_alloc_new (w.alloc (.cells #[.pointer (some ⟨b,0,none⟩),.pointer (some ⟨m,0,none⟩),.slice (some ⟨rg,0,none⟩) tabs.length rc,.slice (some ⟨tg,0,none⟩) tabs.length tc] 82 (0,0))) (.cells #[.int .i64 0,.slice none 0 0] 110 (0,0))
  rw [World.size_alloc] at h;rw [<- hw0];exact h
 have HK:Hid (∀ x:World,Upd [] w0 x->(x.cell? ⟨w.heap.size,1,none⟩=some (.pointer (some ⟨m,0,none⟩))/\x.cell? ⟨w.heap.size,2,none⟩=some (.slice (some ⟨rg,0,none⟩) tabs.length rc)/\x.cell? ⟨w.heap.size,3,none⟩=some (.slice (some ⟨tg,0,none⟩) tabs.length tc)) /\
   x.cell? ⟨rg,j,none⟩=some (.int .u32 r)/\x.cell? ⟨tg,j*2,none⟩=some (.int .i64 t.n)/\x.cell? ⟨tg,j*2+1,none⟩=some (.slice ca t.ws.length cc)):=fun x u=>by
  have e1:=HBX.out.2.1;have e2:=HBX.out.2.2.1;have e3:=HBX.out.2.2.2
  have u1:Upd [] (w.alloc (.cells #[.pointer (some ⟨b,0,none⟩),.pointer (some ⟨m,0,none⟩),.slice (some ⟨rg,0,none⟩) tabs.length rc,.slice (some ⟨tg,0,none⟩) tabs.length tc] 82 (0,0))) x:=by rw [<- hw0] at u;exact ((Upd.refl _ _).alloc _).trans u
  exact ⟨⟨u1.cell0 e1,u1.cell0 e2,u1.cell0 e3⟩,(HU0.out.trans u).cell0 q0,(HU0.out.trans u).cell0 q1,(HU0.out.trans u).cell0 q2⟩
 have HRS:=Lib.hid hrs;have HW0:=Lib.hid hw0;obtain ⟨⟨b1,b2,b3⟩,_⟩:=HK.out w0 (Upd.refl _ _);generalize t.ws.length=TW at *;have htn:tabV t (.slice ca TW cc)=.agg #[.int .i64 t.n,.slice ca TW cc]:=rfl;have HTN:=Lib.hid htn;clear htn;generalize hn:t.n=n at *;have HN:=Lib.hid hn
 have hjl2:(j:Int)<(tabs.length:Int):=by omega
 have hpos2:¬ ((tabs.length:Int)=0):=by omega
 have HLTS:Hid (rg<w.heap.size/\tg<w.heap.size):=⟨World.block_lt_of_cell? _ _ q0,World.block_lt_of_cell? _ _ q1⟩;clear h l hn hti hr ht q0 q1 q2 hrs hw0
 go_enter Tryz.func50,Tryz.ntmps50
 go_wp2_with fail;rw [HW0.out,hj];clear hj
 go_region_held3 (fun x=>(x.cell? ⟨w.heap.size,1,none⟩=some (.pointer (some ⟨m,0,none⟩))/\x.cell? ⟨w.heap.size,2,none⟩=some (.slice (some ⟨rg,0,none⟩) tabs.length rc)/\x.cell? ⟨w.heap.size,3,none⟩=some (.slice (some ⟨tg,0,none⟩) tabs.length tc)) /\
   x.cell? ⟨rg,j,none⟩=some (.int .u32 r)/\x.cell? ⟨tg,j*2,none⟩=some (.int .i64 n)/\x.cell? ⟨tg,j*2+1,none⟩=some (.slice ca TW cc)) (first | exact HK.out _ (Upd.refl _ _).drew | exact HK.out _ HU2.out | exact HKS.out) (first
  | (go_at_call 127;refine (HLV.out _ HU0.out.drew).mono ?_;rintro e w2 ⟨rfl,hu⟩;have HU2:=Lib.hid hu.of_drew;clear hu;have hb2:=(HU2.out.block _ (heap_lt HRS.out) (by simp)).trans HRS.out;have f0:=frozen_at 0 hb2;have f1:=frozen_at 1 hb2;have g0:=cell_at (j:=0) hb2 rfl;have g1:=cell_at (j:=1) hb2 rfl;have HKS:=Lib.hid (slot_set (HK.out _ HU2.out) HLTS.out (.int .i64 n) (.slice ca TW cc));have HB2:=Lib.hid hb2;clear hb2))
 have hb9:=heap_set_eq (j:=1) (heap_set_eq (j:=0) HB2.out (.int .i64 n)) (.slice ca TW cc);have x0:=cell_at (j:=0) hb9 rfl;have x1:=cell_at (j:=1) hb9 rfl;clear hb9;go_wp2_with fail;refine bodyPost_ret (v:=.tuple #[.int .u32 r,.agg #[.int .i64 n,.slice ca TW cc],.bool (M.isLive t)]) (by simp [results,Tryz.results50,go_sem,x0,x1]) rfl ?_
 have hu9:Upd [] w ((w2.setCell ⟨w.heap.size+1,0,none⟩ (.int .i64 n)).setCell ⟨w.heap.size+1,1,none⟩ (.slice ca TW cc)) :=
  ((HU0.out.trans HU2.out).setCell (p:=⟨w.heap.size+1,0,none⟩) (.inr (Nat.le_succ _)) _).setCell (p:=⟨w.heap.size+1,1,none⟩) (.inr (Nat.le_succ _)) _
 exact ⟨j,r,t,ca,TW,cc,by rw [HTN.out],HT.out.2.1,HT.out.2.2,HT.out.1.keep0 hu9,hu9⟩
end Go.Proofs.YtlkgkojidclncaaGreat
namespace Go.Proofs.YtlkgkojidclncaaGreat
open Go.ChangeShapes Go.WideShapes Go.ChangeAt Go.RowKit
theorem own_knob:ownKnob Tryz.prog.godebug=none:=by kernel_rfl
theorem laid_out:laidOutB Tryz.prog=true:=by kernel_rfl
theorem okWide_row {P:Program} {w:World} {r:Reach} {base:Nat} {t:TypeId} {v:Value} {fs:Array Field} (ht:P.underlying t=some (.struct fs)) (h:Value.okWide P w r base t v):∃ cs,v=.agg cs/\cs.size=P.cellsOf t/\Row.okWide P w r base t cs:=by
 unfold Value.okWide at h;rw [ht] at h;exact h
theorem stateSize:Tryz.prog.cellsOf 80=4:=by kernel_rfl
theorem intSize:Tryz.prog.cellsOf 3=1:=by kernel_rfl
theorem u64Size:Tryz.prog.cellsOf 75=1:=by kernel_rfl
theorem intsSize:Tryz.prog.cellsOf 23=1:=by kernel_rfl
theorem u64sSize:Tryz.prog.cellsOf 53=1:=by kernel_rfl
theorem wf_u64 {x:Int} (h:(Lit.int .u64 x).wf=true):U64 x:=by
 simp only [Lit.wf,Bool.and_eq_true,decide_eq_true_eq] at h
 have e1:IntKind.u64.min=0:=rfl;have e2:IntKind.u64.max=18446744073709551615:=rfl;unfold U64;omega
theorem RowOf.of_ints {H:Type} {W:World} {k:IntKind} {cs:List Value} {x:DataW H × List MemPlace}
  (h:(cs=[.slice none 0 0]/\x=(.nil,[])) \/
  ∃ (a:Addr) (len cap:Nat) (zs:List Int),cs=[.slice (some a) len cap]/\0<=a.block/\len<=cap/\cap<=maxLen/\zs.length=(if (fun _:Nat=>true) a.block then cap else len) /\
   x=(.slice (lits k (zs.take len)) (lits k (zs.drop len)),MemPlace.row a zs.length) /\
   (∀ i,i<zs.length->W.cell? (a.add i)=some (.int k (zs.getD i 0)))/\(∀ n∈zs,(Lit.int k n).wf=true)) :
  ∃ (a:Option Addr) (n c:Nat) (Zs:List Int),cs=[.slice a n c]/\RowOf W k a n Zs/\∀ z,z∈Zs->(Lit.int k z).wf=true:=by
 rcases h with ⟨rfl,_⟩ | ⟨a,len,cap,zs,rfl,_,hl,hm,hz,_,hc,hw⟩
 ·exact ⟨none,0,0,[],rfl,⟨rfl,Nat.zero_le _,fun i hi=>by omega⟩,fun z hz=>by cases hz⟩
 ·have hz':zs.length=cap:=by simpa using hz
  refine ⟨some a,len,cap,zs.take len,rfl,⟨by rw [List.length_take];omega,by omega,fun i hi=>⟨a,rfl,?_⟩⟩,fun z hz=>hw z (List.mem_of_mem_take hz)⟩;rw [hc i (by omega),List.getD_eq_getElem?_getD,List.getD_eq_getElem?_getD,List.getElem?_take_of_lt hi]
theorem state_shape {H:Type} {enc:TypeId × Value->H} {W:World} {r:Reach} {base:Nat} {v:Value} {d:DataW H} {p:List MemPlace} (h:Value.okWide Tryz.prog W r base 80 v) (hd:DataW.Trod enc Tryz.prog W 0 (fun _=>true) true 80 v d p) :
  ∃ (n room:Int) (la wa:Option Addr) (ln lc wn wk:Nat) (Ls Ws:List Int),v=.agg #[.int .i64 n,.int .i64 room,.slice la ln lc,.slice wa wn wk]/\RowOf W .i64 la ln Ls/\RowOf W .u64 wa wn Ws/\∀ x,x∈Ws->U64 x:=by
 obtain ⟨cs,rfl,hsz,_⟩:=okWide_row Tryz.underlying80 h;obtain ⟨fuel,hd⟩:=hd;have hsz:=hsz.trans stateSize;obtain ⟨l⟩:=cs
 match l,hsz with
 | [c0,c1,c2,c3],_ =>
  obtain ⟨ys,m,_,_,_,hl,hf⟩:=Go.DataW.trod_struct Tryz.underlying80 hd
  match ys,hl with
  | [y0,y1,y2,y3],_ =>
   have h0:=hf 0 _ rfl;have h1:=hf 1 _ rfl;have h2:=hf 2 _ rfl;have h3:=hf 3 _ rfl
   simp [Value.cells,intSize,intsSize,u64sSize] at h0 h1 h2 h3
   obtain ⟨n,e0,_,_⟩:=Go.DataW.trod_int Tryz.underlying3 h0;obtain ⟨room,e1,_,_⟩:=Go.DataW.trod_int Tryz.underlying3 h1;obtain ⟨la,ln,lc,Ls,e2,hL,_⟩:=RowOf.of_ints (open_ints Tryz.underlying23 Tryz.underlying3 intSize h2);obtain ⟨wa,wn,wk,Ws,e3,hW,hU⟩:=RowOf.of_ints (open_ints Tryz.underlying53 Tryz.underlying75 u64Size h3)
   simp at e0 e1 e2 e3
   subst e0 e1 e2 e3;exact ⟨n,room,la,wa,ln,lc,wn,wk,Ls,Ws,rfl,hL,hW,fun x hx=>wf_u64 (hU x hx)⟩
end Go.Proofs.YtlkgkojidclncaaGreat
namespace Go.Proofs.YtlkgkojidclncaaGreat
open Go.RowKit Go.Maps Go.ChangeMaps Go.WideShapes
theorem TIn.foreign {w w':World} {Z S:List Nat} {c:Value} {t:TV} (h:TIn w Z c t) (u:Upd S w w') (hS:∀ k,k∈S->∃ cs e fr,w.heap[k]?=some (.cells cs e fr)/\75≠e):TIn w' Z c t :=
 ⟨h.ok,row_keep h.row fun k hk=>u.block k (h.row.lt k hk).2 fun hm=>by
  obtain ⟨cs,e,fr,h1,h2⟩:=hS k hm
  exact blk_ne h.row h1 h2 hk,h.fr⟩
structure PL (w:World) (n1:Nat) (Z:List Nat) (lv tv:Value) (fl:List Nat) (tl:List TV):Prop where
 rr:w.ownsRow n1 62 1 lv fl.length (flatRefs fl)
 tt:TLs w n1 Z tv tl
theorem PL.keep0 {w w':World} {n1:Nat} {Z:List Nat} {lv tv:Value} {fl:List Nat} {tl:List TV} (h:PL w n1 Z lv tv fl tl) (u:Upd [] w w'):PL w' n1 Z lv tv fl tl :=
 ⟨row_keep h.rr fun k hk=>u.block k (h.rr.lt k hk).2 (by simp),h.tt.keep0 u⟩
theorem PL.push {w w6:World} {n1 g1 cap1 g2 cap2 f:Nat} {Z:List Nat} {lv tv c:Value} {fl:List Nat} {tl:List TV} {t:TV} {cs:List Value} (h:PL w n1 Z lv tv fl tl) (hZ:∀ k,k∈Z->k<n1) (u:Upd (lv.ownBlock.toList++tv.ownBlock.toList) w w6)
  (e1:cs.length=tl.length) (e3:∀ (i:Nat) (t:TV) (c:Value),tl[i]?=some t->cs[i]?=some c->TIn w Z c t)
  (o1:w6.ownsRow n1 62 1 (.slice (some ⟨g1,0,none⟩) (fl.length+1) cap1) (fl.length+1) (flatRefs fl++[.int .u32 f]))
  (o2:w6.ownsRow n1 110 2 (.slice (some ⟨g2,0,none⟩) (tl.length+1) cap2) (tl.length+1) (flatTT tl cs++[.int .i64 t.n,c])) (ht:TIn w Z c t) :
  PL w6 n1 Z (.slice (some ⟨g1,0,none⟩) (fl.length+1) cap1) (.slice (some ⟨g2,0,none⟩) (tl.length+1) cap2) (fl++[f]) (tl++[t]):=by
 obtain ⟨xs,hxs⟩:=h.tt.row
 have keep:∀ {c:Value} {t:TV},TIn w Z c t->TIn w6 Z c t:=fun hc=>hc.foreign u fun k hk=>by
  rcases List.mem_append.1 hk with hk | hk
  ·have hk:lv.ownBlock=some k:=by simpa using hk
   obtain ⟨cs,fr,h1⟩:=row_type h.rr hk;exact ⟨cs,_,fr,h1,by decide⟩
  ·have hk:tv.ownBlock=some k:=by simpa using hk
   obtain ⟨cs,fr,h1⟩:=row_type hxs hk;exact ⟨cs,_,fr,h1,by decide⟩
 refine ⟨?_,⟨⟨cs++[c],by simp [e1],?_,fun i s d hs hd=>?_⟩,fun k hk hm=>?_⟩⟩
 ·rw [List.length_append,List.length_singleton]
  unfold flatRefs at o1 ⊢;rw [List.map_append];exact o1
 ·rw [flatTT_snoc e1,List.length_append,List.length_singleton];exact o2
 ·by_cases hi:i<tl.length
  ·rw [List.getElem?_append_left hi] at hs
   rw [List.getElem?_append_left (by omega)] at hd;exact keep (e3 i s d hs hd)
  ·rw [List.getElem?_append_right (by omega)] at hs
   rw [List.getElem?_append_right (by omega),e1] at hd
   cases h3:i-tl.length with
   | zero=>rw [h3] at hs hd;simp at hs hd;subst hs hd;exact keep ht
   | succ j=>rw [h3] at hs;simp at hs
 ·have:=(o2.lt k hk).1
  have:=hZ k hm;omega
structure KpB (B:Nat) (wS:World) (N:Nat) (Z:List Nat) (K:KV) (M:MV) (fv tv:Value) (fl:List Nat) (tl:List TV) (i:Nat) (w:World):Prop where
 pl:PL w N Z fv tv fl tl
 len:fl.length=tl.length
 le:fl.length<=B
 lt:fl.length<=i
 up:Upd [] wS w
 nm:∀ (i f:Nat) (t:TV),fl[i]?=some f->tl[i]?=some t->Names K f t
 tk:∀ t,t∈tl->t.n=K.vars/\M.isLive t=true
 ns:N=wS.heap.size
theorem KpB.start (B:Nat) (wS:World) (Z:List Nat) (K:KV) (M:MV):KpB B wS wS.heap.size Z K M (.slice none 0 0) (.slice none 0 0) [] [] 0 wS :=
 ⟨⟨World.ownsRow_nil _ _ _ _,TLs.nil _ _ _⟩,rfl,by simp,by simp,Upd.refl _ _,fun i f t h=>by simp at h,fun t h=>by simp at h,rfl⟩
theorem KpB.keep0 {B:Nat} {wS w w':World} {N:Nat} {Z:List Nat} {K:KV} {M:MV} {fv tv:Value} {fl:List Nat} {tl:List TV} {i j:Nat} (h:KpB B wS N Z K M fv tv fl tl i w) (u:Upd [] w w') (hij:i<=j):KpB B wS N Z K M fv tv fl tl j w' :=
 ⟨h.pl.keep0 u,h.len,h.le,Nat.le_trans h.lt hij,h.up.trans u,h.nm,h.tk,h.ns⟩
theorem KpB.push {B:Nat} {wS w w6:World} {N g1 cap1 g2 cap2 f:Nat} {Z:List Nat} {K:KV} {M:MV} {fv tv c:Value} {fl:List Nat} {tl:List TV} {t:TV} {i:Nat} {cs:List Value} (h:KpB B wS N Z K M fv tv fl tl i w) (hZ:∀ k,k∈Z->k<N) (u:Upd (fv.ownBlock.toList++tv.ownBlock.toList) w w6)
  (e1:cs.length=tl.length) (e3:∀ (i:Nat) (t:TV) (c:Value),tl[i]?=some t->cs[i]?=some c->TIn w Z c t)
  (o1:w6.ownsRow N 62 1 (.slice (some ⟨g1,0,none⟩) (fl.length+1) cap1) (fl.length+1) (flatRefs fl++[.int .u32 f]))
  (o2:w6.ownsRow N 110 2 (.slice (some ⟨g2,0,none⟩) (tl.length+1) cap2) (tl.length+1) (flatTT tl cs++[.int .i64 t.n,c])) (ht:TIn w Z c t)
  (hn:Names K f t) (hl:t.n=K.vars/\M.isLive t=true) (hi:i<B) :
  KpB B wS N Z K M (.slice (some ⟨g1,0,none⟩) (fl.length+1) cap1) (.slice (some ⟨g2,0,none⟩) (tl.length+1) cap2) (fl++[f]) (tl++[t]) (i+1) w6:=by
 have hlt:=h.lt;have hns:=h.ns;obtain ⟨xs,hxs⟩:=h.pl.tt.row;refine ⟨h.pl.push hZ u e1 e3 o1 o2 ht,by simp [h.len],by simp;omega,by simp;omega,h.up.then u fun k hk=>.inr ?_,fun j q u h1 h2=>?_,fun s hs=>?_,hns⟩
 ·rcases List.mem_append.1 hk with hk | hk
  ·have:=(h.pl.rr.lt k (by simpa using hk)).1;omega
  ·have:=(hxs.lt k (by simpa using hk)).1;omega
 ·by_cases hj:j<fl.length
  ·rw [List.getElem?_append_left hj] at h1
   rw [List.getElem?_append_left (by rw [<- h.len];exact hj)] at h2;exact h.nm j q u h1 h2
  ·rw [List.getElem?_append_right (by omega)] at h1
   rw [List.getElem?_append_right (by rw [<- h.len];omega),<- h.len] at h2
   cases h3:j-fl.length with
   | zero=>rw [h3] at h1 h2;simp at h1 h2;subst h1 h2;exact hn
   | succ j=>rw [h3] at h1;simp at h1
 ·rcases List.mem_append.1 hs with h1 | h1
  ·exact h.tk s h1
  ·simp at h1;subst h1;exact hl
structure DeadQ (K:KV) (w:World) (e:Ending) (w':World):Prop where
 ex:∃ r:Nat,e=.returned (.tuple #[.int .u32 r,.bool true])/\K.A.tk r=false/\r<=4294967295/\Upd [] w w'
theorem dead_ref (b:Nat) (i:Int) (K:KV) (T:List DM) (q:KPtr) (w:World) (h:KerIn w b K T q) :
  Calls Tryz.prog 52 #[.pointer (some ⟨b,0,none⟩),.int .i64 i] w fun e w'=>DeadQ K w e w':=by
 obtain ⟨u,hu,hu2⟩ : ∃ u:Nat,IntKind.u32.wrap i=(u:Int)/\u<4294967296:=⟨(IntKind.u32.wrap i).toNat,by
  have e:IntKind.u32.wrap i=i % 4294967296:=rfl
  rw [e];omega,by
  have e:IntKind.u32.wrap i=i % 4294967296:=rfl
  rw [e];omega⟩
 obtain ⟨x,hx,hx2⟩ : ∃ x:Nat,(u:Int).tmod 97=(x:Int)/\x<97:=⟨u % 97,by rw [Int.tmod_eq_emod_of_nonneg (by omega)];omega,Nat.mod_lt _ (by omega)⟩
 obtain ⟨y,hy,hy2⟩ : ∃ y:Nat,IntKind.u32.wrap ((x:Int)*44221)=(y:Int)/\y<=4245216:=⟨x*44221,by
  have e:IntKind.u32.wrap ((x:Int)*44221)=((x:Int)*44221) % 4294967296:=rfl
  rw [e];omega,by omega⟩
 obtain ⟨r,hr,hr1,hr2⟩ : ∃ r:Nat,IntKind.u32.wrap ((y:Int)+2097152)=(r:Int)/\2097152<=r/\r<=4294967295:=⟨y+2097152,by
  have e:IntKind.u32.wrap ((y:Int)+2097152)=((y:Int)+2097152) % 4294967296:=rfl
  rw [e];omega,by omega,by omega⟩
 have hd:K.A.tk r=false:=by
  cases hc:K.A.tk r with
  | false=>rfl
  | true=>have:=h.ok.ref_lt hc;omega
 have HN:=Lib.hid (nodeof_no b r K T q w h.mem hr2 hd);have HD:=Lib.hid (And.intro hd hr2);clear h hd
 go_enter Tryz.func52,Tryz.ntmps52
 go_wp2_with fail;refine HN.out.mono ?_;rintro e w1 ⟨rfl,hu1⟩;have HU:=Lib.hid hu1;clear hu1 HN;go_wp2_with fail;go_ret2;exact ⟨r,rfl,HD.out.1,HD.out.2,HU.out.alloc _⟩
theorem docsize_spec (m n0:Nat) (M:MV) (p:MPtr) (Z:List Nat) (v:Value) (L:List TV) (w:World) (h:ModIn w m M p Z) (hZ:∀ k,k∈Z->k<w.heap.size) (hf:M.Fit) (hv:TLs w n0 Z v L) (hL:∀ t,t∈L->t.n=M.n/\M.isLive t=true) (hl:L.length<=1000) :
  Calls Tryz.prog 51 #[.pointer (some ⟨m,0,none⟩),v] w fun e w'=>e=.returned (.tuple #[.int .i64 ((flatT L M.order).length:Nat),.int .i64 0])/\Upd [] w w':=by
 obtain ⟨fa,fc,rfl,hfa⟩:=hv.form;have HV:=Lib.hid hv
 have HSZ:Hid (∀ z,Upd [] w z->Calls Tryz.prog 128 #[.pointer (some ⟨m,0,none⟩),.slice fa L.length fc] z fun e w'=>e=.returned (.int .i64 ((flatT L M.order).length:Nat))/\Upd [] z w'):=fun z u =>
  msize_spec m n0 M p Z _ L z (h.keep0 u) (fun k hk=>Nat.lt_of_lt_of_le (hZ k hk) u.size) hf (hv.keep0 u) (fun t ht=>(hL t ht).1) (by omega)
 have HIS:Hid (∀ z c t,Upd [] w z->t∈L->TIn z Z c t->Calls Tryz.prog 127 #[.pointer (some ⟨m,0,none⟩),tabV t c] z fun e w'=>e=.returned (.bool true)/\Upd [] z w'):=fun z c t u ht hti =>
  (islive_spec m M p Z c t z (h.keep0 u) (fun k hk=>Nat.lt_of_lt_of_le (hZ k hk) u.size) hf hti).mono fun e w' ⟨h1,h2⟩=>⟨by rw [h1,(hL t ht).2],h2⟩
 generalize hm:L.length=N at *;have HM:=Lib.hid hm;generalize (flatT L M.order).length=S at *;clear h hZ hf hv hL hm
 go_enter Tryz.func51,Tryz.ntmps51
 go_wp2_with fail
 go_loopg [10] N (fun g s10 wr=>∃ i:Nat,N-i=g/\i<=N/\s10=.int .i64 i/\Upd [] w wr)
 case atStart=>exact ⟨0,by omega,by omega,rfl,Upd.refl _ _⟩
 case round =>
  obtain ⟨i,rfl,hi,rfl,hU⟩:=hrel
  by_cases hlt:i<N
  ·have hil:(i:Int)<(N:Int):=by omega
   obtain ⟨u,hu⟩ : ∃ u,L[i]?=some u:=⟨_,List.getElem?_eq_getElem (by rw [HM.out];exact hlt)⟩;obtain ⟨g,rfl⟩:=hfa (by omega);have hL:=HV.out.keep0 hU;obtain ⟨cu,x0,x1,htu⟩:=hL.at_ hu;obtain ⟨ua,uc,hcu,_⟩:=row_nil_len htu.row;subst hcu;have hua:Upd [] wr (wr.alloc (.cells #[.int .i64 u.n,.slice ua u.ws.length uc] 110 (0,0))):=(Upd.refl _ _).alloc _;have HI:=Lib.hid (HIS.out _ _ u (hU.trans hua) (List.mem_of_getElem? hu) (htu.keep0 hua));have hbx:=boxT wr (.int .i64 u.n) (.slice ua u.ws.length uc);have y0:=hbx.1;have y1:=hbx.2;have HUA:=Lib.hid (hU.trans hua);unfold tabV at HI;generalize u.ws.length=W at *;generalize u.n=un at *;clear hU htu hu hL hbx hua;go_wp2_with fail;refine HI.out.mono ?_;rintro e w2 ⟨rfl,hu2⟩;have HU2:=Lib.hid (HUA.out.trans hu2);clear hu2;go_wp2_with fail
   go_roundg (N-(i+1))
   case measure=>omega
   case rel=>exact ⟨i+1,rfl,by omega,by simp,HU2.out⟩
  ·obtain rfl:i=N:=by omega
   have hil:¬ ((i:Int)<(i:Int)):=by omega
   have HU:=Lib.hid hU;clear hU;go_wp2_with fail;refine (HSZ.out _ HU.out).mono ?_;rintro e w2 ⟨rfl,hu2⟩;have HU2:=Lib.hid (HU.out.trans hu2);clear hu2;go_wp2_with fail;go_ret2;exact ⟨rfl,HU2.out⟩
theorem clive_last (b r:Nat) (K:KV) (T:List DM) (q:KPtr) (lv:Value) (rs:List Nat) (w:World) (h:KerIn w b K T q) (hrow:w.ownsRow 0 62 1 lv (rs.length+1) (flatRefs rs++[.int .u32 r])) (hl:∀ x,x∈rs->K.A.tk x=true) (hd:K.A.tk r=false) (hr32:r<=4294967295) (hlen:rs.length<=1000000) :
  Calls Tryz.prog 115 #[.pointer (some ⟨b,0,none⟩),lv] w fun e w'=>e=.returned (.int .i64 3)/\Upd [] w w':=by
 obtain ⟨fa,fc,rfl,_⟩:=row_nil_len hrow;obtain ⟨g,rfl⟩:=row_some hrow (by omega);have HK:=Lib.hid h;have HR:=Lib.hid hrow;have HL:=Lib.hid hl;have HD:=Lib.hid (fun z (u:Upd [] w z)=>nodeof_no b r K T q z (h.upd u (by simp)).mem hr32 hd)
 have hfl:(flatRefs rs).length=rs.length:=by simp [flatRefs]
 have HFL:=Lib.hid hfl;obtain ⟨N,hN⟩ : ∃ N,rs.length+1=N:=⟨_,rfl⟩;rw [hN];have HN:=Lib.hid hN
 have hNl:N<=1000001:=by omega
 clear h hrow hl hd hfl hN
 go_enter Tryz.func115,Tryz.ntmps115
 go_wp2_with fail
 go_loopg [13] N (fun g s13 wr=>∃ i:Nat,N-i=g/\i<N/\s13=.int .i64 i/\Upd [] w wr)
 case atStart=>exact ⟨0,by omega,by have:=HN.out;omega,rfl,Upd.refl _ _⟩
 case round =>
  obtain ⟨i,rfl,hi,rfl,hU⟩:=hrel
  have hil:(i:Int)<(N:Int):=by omega
  have hr:=row_keep HR.out fun k hk=>hU.block k (HR.out.lt k hk).2 (by simp)
  by_cases hlt:i+1<N
  ·have hir:i<rs.length:=by have:=HN.out;omega
   obtain ⟨f,hf⟩ : ∃ f,rs[i]?=some f:=⟨_,List.getElem?_eq_getElem hir⟩;have htk:=HL.out f (List.mem_of_getElem? hf);obtain ⟨p,hp,hpt⟩:=ArenaV.tk_iff.1 htk;have cf:=row_cell hr (j:=i) (u:=.int .u32 f) (by rw [List.getElem?_append_left (by rw [HFL.out];exact hir)];simp [flatRefs,hf]);have hf32:=HK.out.ok.ref_lt htk;have HP:=Lib.hid (And.intro hp hpt);have HU:=Lib.hid hU;clear hU hr htk hp hpt hf hir;go_wp2_with fail;refine (nodeof_yes b f K T q p _ (HK.out.upd HU.out (by simp)).mem (by omega) HP.out.1 HP.out.2).mono ?_;rintro e w1 ⟨rfl,hu⟩;have HU1:=Lib.hid (HU.out.trans hu);clear hu;go_wp2_with fail
   go_roundg (N-(i+1))
   case measure=>omega
   case rel=>exact ⟨i+1,rfl,by omega,by simp,HU1.out.alloc _⟩
  ·have hie:i=rs.length:=by have:=HN.out;omega
   have cf:=row_cell hr (j:=i) (u:=.int .u32 r) (by rw [hie,List.getElem?_append_right (by rw [HFL.out];exact Nat.le_refl _),HFL.out];simp);have HU:=Lib.hid hU;clear hU hr hie;go_wp2_with fail;refine (HD.out _ HU.out).mono ?_;rintro e w1 ⟨rfl,hu⟩;have HU1:=Lib.hid (HU.out.trans hu);clear hu;go_wp2_with fail;go_ret;exact ⟨rfl,HU1.out.alloc _⟩
theorem size_last (b r:Nat) (K:KV) (T:List DM) (q:KPtr) (lv:Value) (rs:List Nat) (w:World) (h:KerIn w b K T q) (hrow:w.ownsRow 0 62 1 lv (rs.length+1) (flatRefs rs++[.int .u32 r])) (hl:∀ x,x∈rs->K.A.tk x=true) (hd:K.A.tk r=false) (hr32:r<=4294967295) (hlen:rs.length<=1000000) :
  Calls Tryz.prog 40 #[.pointer (some ⟨b,0,none⟩),lv] w fun e w'=>e=.returned (.tuple #[.int .i64 0,.int .i64 3])/\Upd [] w w':=by
 have HC:=Lib.hid (clive_last b r K T q lv rs w h hrow hl hd hr32 hlen);clear h hrow hl hd hr32 hlen
 go_enter Tryz.func40,Tryz.ntmps40
 go_wp2_with fail;refine HC.out.mono ?_;rintro e w1 ⟨rfl,hu⟩;have HU1:=Lib.hid hu;clear hu;go_wp2_with fail;go_ret2;exact ⟨rfl,HU1.out⟩
end Go.Proofs.YtlkgkojidclncaaGreat
