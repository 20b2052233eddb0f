import Derived.Test.YtfkopmhpppeheaaGreatPY24
import Derived.Test.YtfkopmhpppeheaaGreatPY11
import Derived.Test.YtfkopmhpppeheaaGreatPY12
import Derived.Test.YtfkopmhpppeheaaGreatPY17
set_option maxRecDepth 100000
set_option maxHeartbeats 3200000
namespace Go.Proofs.YtfkopmhpppeheaaGreat
open Go.RowKit Go.Maps Go.ChangeMaps Go.WideShapes
def wordI (n:Nat) (f:Nat->Int) (i:Nat):Int:=bits BinOp.and IntKind.u64 (f i) (fullI n)
def laidT (n:Nat) (f:Nat->Int):TV:=⟨n,(List.range (wordsN n)).map (wordI n f)⟩
theorem wordI_bits {n:Nat} {f:Nat->Int} {i:Nat} (hf:U64 (f i)):U64 (wordI n f i)/\∀ j,nb (wordI n f i) j=(nb (f i) j&&(decide (j<64)&&decide (j<2 ^ n))):=by
 refine ⟨bits_u64 _ _ _,fun j=>?_⟩;unfold wordI;rw [nb_and hf (fullI_bits n).1,(fullI_bits n).2]
theorem laidT_ok {n:Nat} {f:Nat->Int} (hn:n<=16) (hf:∀ i,i<wordsN n->U64 (f i)):(laidT n f).Ok:=by
 refine ⟨hn,by simp [laidT],fun x hx=>?_,fun h6 x hx i hi=>?_⟩
 ·simp only [laidT,List.mem_map,List.mem_range] at hx
  obtain ⟨i,hi,rfl⟩:=hx;exact (wordI_bits (hf i hi)).1
 ·have hi':2 ^ n<=i:=hi
  simp only [laidT,List.mem_map,List.mem_range] at hx
  obtain ⟨j,hj,rfl⟩:=hx;rw [(wordI_bits (hf j hj)).2]
  have:¬ i<2 ^ n:=by omega
  simp [this]
theorem laidT_eq {n:Nat} {f:Nat->Int} {g:Nat->Bool} (hn:n<=16) (hf:∀ i,i<wordsN n->U64 (f i)) (hb:∀ i,i<wordsN n->∀ j,j<64->64*i+j<2 ^ n->nb (f i) j=g (64*i+j)):laidT n f=mkT n g:=by
 refine mkT_eq (laidT_ok hn hf) fun x hx=>?_
 have hx':x<2 ^ n:=hx;have hd:=div64_lt hx';unfold TV.bit
 have e:(laidT n f).ws.getD (x/64) 0=wordI n f (x/64):=by
  rw [List.getD_eq_getElem?_getD];simp [laidT,hd]
 have hm:x % 64<64:=Nat.mod_lt _ (by omega);rw [e,(wordI_bits (hf _ hd)).2,hb _ hd _ hm (by omega),show 64*(x/64)+x % 64=x by omega]
 have:x % 64<2 ^ n:=by omega
 simp [hm,this]
structure LaidM (w:World) (n m G B:Nat) (W:List Int) (wr:World):Prop where
 row:wr.ownsRow w.heap.size 90 1 (.slice (some ⟨G,0,none⟩) m m) m (flatU W)
 bx:wr.heap[B]?=some (.cells #[.int .i64 n,.slice (some ⟨G,0,none⟩) m m] 122 (0,0))
 rs:wr.heap[w.heap.size]?=some (.cells #[.int .i64 0,.slice none 0 0] 122 (0,0))
 up:Upd [] w wr
 ne:G≠B/\G≠w.heap.size/\B≠w.heap.size/\w.heap.size<=G
theorem LaidM.start {w wa:World} {n m:Nat} (u:Upd [] w wa) (a1:wa.heap[w.heap.size]?=some (.cells #[.int .i64 0,.slice none 0 0] 122 (0,0))) (oa:wa.ownsRow w.heap.size 90 1 (.slice (some ⟨w.heap.size+1,0,none⟩) m m) m (madeCells #[Value.int .u64 0] m).toList) :
  LaidM w n m (w.heap.size+1) wa.heap.size (List.replicate m 0) (wa.alloc (.cells #[.int .i64 n,.slice (some ⟨w.heap.size+1,0,none⟩) m m] 122 (0,0))):=by
 have hg:w.heap.size+1<wa.heap.size:=(oa.lt _ rfl).2
 have e:flatU (List.replicate m 0)=(madeCells #[Value.int .u64 0] m).toList:=by rw [flatU,List.map_replicate];exact (madeU m).symm
 refine ⟨by rw [e];exact oa.alloc _,heap_alloc_new _ _,(heap_alloc_old _ _ (heap_lt a1)).trans a1,u.alloc _,by omega,by omega,by omega,by omega⟩
theorem LaidM.upd {w wr w2:World} {n m G B:Nat} {W:List Int} (h:LaidM w n m G B W wr) (u:Upd [] wr w2):LaidM w n m G B W w2:=by
 have e:∀ {k:Nat} {o:Obj},wr.heap[k]?=some o->w2.heap[k]?=some o:=fun {k o} hk=>by rw [u.block k (heap_lt hk) (by simp)];exact hk
 exact ⟨row_keep h.row fun k hk=>u.block k (h.row.lt k hk).2 (by simp),e h.bx,e h.rs,h.up.trans u,h.ne⟩
theorem LaidM.set {w wr:World} {n m G B i:Nat} {W:List Int} (h:LaidM w n m G B W wr) (hi:i<m) (z:Int):∀ w2,Upd [] wr w2->LaidM w n m G B (W.set i z) (w2.setCell ⟨G,i,none⟩ (.int .u64 z)):=fun w2 u=>by
 have h:=h.upd u;have hr:=row_set h.row (j:=i) (by omega) (.int .u64 z)
 have e:(flatU W).set i (.int .u64 z)=flatU (W.set i z):=by simp [flatU,List.map_set]
 rw [e] at hr;refine ⟨hr,(heap_set_ne (Ne.symm h.ne.1)).trans h.bx,(heap_set_ne (Ne.symm h.ne.2.1)).trans h.rs,h.up.setCell (p:=⟨G,i,none⟩) (.inr h.ne.2.2.2) _,h.ne⟩
theorem LaidM.done {w wr:World} {n m G B:Nat} {f:Nat->Int} (h:LaidM w n m G B (partI (wordI n f) m m) wr) (hok:(laidT n f).Ok) (hl:laidT n f=⟨n,(List.range m).map (wordI n f)⟩) :
  TabQ (laidT n f) w (.returned (.agg #[.int .i64 n,.slice (some ⟨G,0,none⟩) m m])) ((wr.setCell ⟨w.heap.size,0,none⟩ (.int .i64 n)).setCell ⟨w.heap.size,1,none⟩ (.slice (some ⟨G,0,none⟩) m m)):=by
 have hr:=h.row;rw [partI_full (wordI n f) rfl] at hr;have hg:=h.ne.2.1;have r1:=row_ne hr (a:=⟨w.heap.size,0,none⟩) (by simpa [Value.ownBlock] using Ne.symm hg) (.int .i64 n);have r2:=row_ne r1 (a:=⟨w.heap.size,1,none⟩) (by simpa [Value.ownBlock] using Ne.symm hg) (.slice (some ⟨G,0,none⟩) m m);refine ⟨.slice (some ⟨G,0,none⟩) m m,?_,⟨hok,?_⟩,(h.up.setCell (p:=⟨w.heap.size,0,none⟩) (.inr (Nat.le_refl _)) _).setCell (p:=⟨w.heap.size,1,none⟩) (.inr (Nat.le_refl _)) _⟩
 ·rw [hl];rfl
 ·rw [hl]
  have el:((List.range m).map (wordI n f)).length=m:=by simp
  show World.ownsRow _ _ _ _ _ ((List.range m).map (wordI n f)).length _
  rw [el];exact r2
def LaidCb (fl:Nat) (caps:Array Value) (f:Nat->Int) (m:Nat) (S:World->Prop):Prop:=∀ (w:World) (i:Nat),S w->i<m->Calls Tryz.prog fl (#[.int .i64 i]++caps) w fun e w'=>e=.returned (.int .u64 (f i))/\Upd [] w w'
theorem trulaid_spec (n fl:Nat) (caps:Array Value) (f:Nat->Int) (w:World) (hn:n<=16) (hen:Enters fl) (hf:∀ i,i<wordsN n->U64 (f i)) (hcb:LaidCb fl caps f (wordsN n) (fun z=>Upd [] w z)) :
  Calls Tryz.prog 196 #[.int .i64 n,.func (Fn.func fl) #[] caps] w fun e w'=>TabQ (laidT n f) w e w':=by
 obtain ⟨i2,hi2,hz2,hs2,hb2⟩:=info_parts Tryz.infoU64;have HI:=Lib.hid (And.intro hi2 (And.intro hz2 (And.intro hs2 hb2)));have HEN:Hid (∀ (args:Array Value) (w:World),(callFunc fl args).run Tryz.prog w=.ok (.enter fl args) w):=hen;have HCB:=Lib.hid hcb;have HF:=Lib.hid hf
 have hm:wordsN n<=1024:=by
  have:=(mkT_ok (n:=n) (fun _=>true) hn).len_le
  simpa [mkT] using this
 have HNN:=Lib.hid hn;have HWS:=Lib.hid (fun z=>truwords_spec n z hn);have HFU:=Lib.hid (fun z=>trufull_spec n z hn)
 have HW0:Hid (∀ i,wordI n f i=bits BinOp.and IntKind.u64 (f i) (fullI n)):=fun _=>rfl
 have HLT:Hid (laidT n f=⟨n,(List.range (wordsN n)).map (wordI n f)⟩):=rfl;have HOK:=Lib.hid (laidT_ok hn hf);generalize fullI n=fu at *;generalize wordsN n=m at *;clear hcb hf hi2 hz2 hs2 hb2 hen
 go_enter Tryz.func196,Tryz.ntmps196
 go_wp2_with fail
 have hbs:w.heap.size<=(w.alloc (.cells #[.int .i64 0,.slice none 0 0] 122 (0,0))).heap.size:=by rw [World.size_alloc];omega
 obtain ⟨wa,ra,oa,ga⟩:=run_make_full (P:=Tryz.prog) (w:=w.alloc (.cells #[.int .i64 0,.slice none 0 0] 122 (0,0))) w.heap.size 68 90 i2 (.int .u64 0) 1 Tryz.underlying68 HI.out.1 HI.out.2.1 HI.out.2.2.1 .i64 .i64 m (by rw [HI.out.2.2.2];omega) (by unfold maxLen;omega) hbs;rw [Nat.mul_one,show (Value.int .u64 0).cells=[Value.int .u64 0].toArray from rfl,World.size_alloc] at oa;rw [World.size_alloc] at ra;have hu1:Upd [] w wa:=((Upd.refl [] w).alloc (.cells #[.int .i64 0,.slice none 0 0] 122 (0,0))).grown ga (by simp);have hr0:wa.heap[w.heap.size]?=some (.cells #[.int .i64 0,.slice none 0 0] 122 (0,0)):=(ga.block _ (by rw [World.size_alloc];omega) (by simp)).trans (heap_alloc_new w _);have hgs:w.heap.size+1<wa.heap.size:=(oa.lt _ rfl).2;have hMk:=LaidM.start (m:=m) (n:=n) hu1 hr0 oa;have HM0:=Lib.hid hMk;clear oa ga hu1 hr0 hbs hMk;refine (HWS.out _).mono ?_;rintro e w1 ⟨rfl,rfl⟩;have hfld:=fldT;go_wp2_with fail;clear hfld ra;generalize wa.heap.size=B at *;generalize w.heap.size+1=G at *
 go_loopg [15] m (fun gg s15 wr=>∃ i:Nat,m-i=gg/\i<=m/\s15=.int .i64 i/\LaidM w n m G B (partI (wordI n f) m i) wr)
 case atStart=>exact ⟨0,by omega,by omega,rfl,by rw [partI_zero];exact HM0.out⟩
 case round =>
  obtain ⟨i,rfl,hi,rfl,hM⟩:=hrel
  by_cases hlt:i<m
  ·have hil:(i:Int)<(m:Int):=by omega
   have HC:=Lib.hid (fun z (u:Upd [] wr z)=>HCB.out z i (hM.up.trans u) hlt);have hset:=hM.set hlt (wordI n f i);rw [partI_set (wordI n f) hlt] at hset;have HW:=Lib.hid (HW0.out i);obtain ⟨Y,hY⟩ : ∃ Y,(partI (wordI n f) m i).getD i 0=Y:=⟨_,rfl⟩
   have e1:(partI (wordI n f) m i)[i]?=some Y:=by rw [<- hY,List.getD_eq_getElem?_getD,List.getElem?_eq_getElem (by rw [partI_len];exact hlt)];rfl
   have HSE:Hid (∀ z,Upd [] wr z->z.cell? ⟨B,1,none⟩=some (.slice (some ⟨G,0,none⟩) m m)/\z.cell? ⟨G,i,none⟩=some (.int .u64 Y)/\z.frozen? ⟨G,i,none⟩=false):=fun z u=>by
    have h:=hM.upd u;exact ⟨cell_at h.bx rfl,row_cell h.row (by rw [flatU,List.getElem?_map,e1];rfl),row_frozen h.row i⟩
   have HMS:=Lib.hid hset;have hne:B≠G:=Ne.symm hM.ne.1;obtain ⟨F,hF⟩ : ∃ F,f i=F:=⟨_,rfl⟩;rw [hF] at HC HW;clear hM hset hY e1 hF;go_upto_region 5 with fail;refine wp_region_until (fun z=>z.cell? ⟨B,1,none⟩=some (.slice (some ⟨G,0,none⟩) m m)) (fun _=>True) [10] (by kernel_rfl) ?_;have hS:=(HSE.out _ (Upd.refl _ _).drew).1;have hE:True:=trivial;have hen:=HEN.out;refine wpAnyU_takeS (i:=0) (v:=?v1) rfl (by kernel_rfl) (by kernel_rfl) (by kernel_rfl) (by kernel_rfl) (fun _ _ _ h=>h) (Or.inl ⟨by rfl,?hy1⟩) hS (fun _=>hE) ?rest1
   case hy1=>(intro x hSx;(try dsimp only at hSx);go_simp;try with_reducible rfl)
   (try simp only [Act.put,List.setIfInBounds_toArray])
   refine wpAnyU_takeS (i:=1) (v:=?v2) rfl (by kernel_rfl) (by kernel_rfl) (by kernel_rfl) (by kernel_rfl) (fun _ _ _ h=>h) (Or.inl ⟨by rfl,?hy2⟩) hS (fun _=>hE) ?rest2
   case hy2=>(intro x hSx;(try dsimp only at hSx);go_simp;try with_reducible rfl)
   (try simp only [Act.put])
   refine wpAnyU_takeS (i:=2) (v:=?v3) rfl (by kernel_rfl) (by kernel_rfl) (by kernel_rfl) (by kernel_rfl) (fun _ _ _ h=>h) (Or.inl ⟨by rfl,?hy3⟩) hS (fun _=>hE) ?rest3
   case hy3=>(intro x hSx;(try dsimp only at hSx);go_simp;try with_reducible rfl)
   (try simp only [Act.put])
   refine wpAnyU_takeS (i:=3) (v:=?v4) rfl (by kernel_rfl) (by kernel_rfl) (by kernel_rfl) (by kernel_rfl) (fun _ _ _ h=>h) (Or.inl ⟨by rfl,?hy4⟩) hS (fun _=>hE) ?rest4
   case hy4=>(intro x hSx;(try dsimp only at hSx);go_simp;try with_reducible rfl)
   (try simp only [Act.put])
   refine wpAnyU_takeS (i:=4) (v:=?v5) rfl (by kernel_rfl) (by kernel_rfl) (by kernel_rfl) (by kernel_rfl) (fun _ _ _ h=>h) (Or.inl ⟨by rfl,?hy5⟩) hS (fun _=>hE) ?rest5
   case hy5=>(intro x hSx;(try dsimp only at hSx);go_simp;try with_reducible rfl)
   (try simp only [Act.put])
   refine wpAnyU_takeS (i:=6) (v:=?v6) rfl (by kernel_rfl) (by kernel_rfl) (by kernel_rfl) (by kernel_rfl) (fun _ _ _ h=>h) (Or.inl ⟨by rfl,?hy6⟩) hS (fun _=>hE) ?rest6
   case hy6=>(intro x hSx;(try dsimp only at hSx);go_simp;try with_reducible rfl)
   (try simp only [Act.put])
   refine wpAnyU_ready (rs:=[5]) (by kernel_rfl) (by simp) ?_;refine AllReadyU.cons rfl (fun Kx hK=>?_) ?_
   rotate_left
   exact AllReadyU.nil
   go_simp
   refine (HC.out _ ((Upd.refl [] wr).drew)).mono ?_;rintro e w6 ⟨rfl,hu⟩;have HG1:=Lib.hid (((Upd.refl [] wr).drew).trans hu);clear hu;go_wp2_with fail;refine hK.out _ _ ⟨(HSE.out _ HG1.out).1,fun _=>trivial⟩ (fun hHeld=>?_);clear hK Kx;obtain ⟨hS,hE⟩:=hHeld;have hE:=hE (by kernel_rfl)
   (try simp only [Act.put,List.setIfInBounds_toArray,List.set_cons_zero,List.set_cons_succ])
   refine wpAnyU_ready (rs:=[7]) (by kernel_rfl) (by simp) ?_;refine AllReadyU.cons rfl (fun Kx hK=>?_) ?_
   rotate_left
   exact AllReadyU.nil
   go_simp
   refine (HFU.out _).mono ?_;rintro e w7 ⟨rfl,rfl⟩;go_wp2_with fail;refine hK.out _ _ ⟨(HSE.out _ HG1.out).1,fun _=>trivial⟩ (fun hHeld=>?_);clear hK Kx;obtain ⟨hS,hE⟩:=hHeld;have hE:=hE (by kernel_rfl)
   (try simp only [Act.put,List.setIfInBounds_toArray,List.set_cons_zero,List.set_cons_succ])
   refine wpAnyU_takeS (i:=8) (v:=?v7) rfl (by kernel_rfl) (by kernel_rfl) (by kernel_rfl) (by kernel_rfl) (fun _ _ _ h=>h) (Or.inl ⟨by rfl,?hy7⟩) hS (fun _=>hE) ?rest7
   case hy7=>(intro x hSx;(try dsimp only at hSx);go_simp;try with_reducible rfl)
   (try simp only [Act.put,List.setIfInBounds_toArray])
   refine wpAnyU_takeS (i:=9) (v:=?v8) rfl (by kernel_rfl) (by kernel_rfl) (by kernel_rfl) (by kernel_rfl) (fun _ _ _ h=>h) (Or.inl ⟨by rfl,?hy8⟩) hS (fun _=>hE) ?rest8
   case hy8=>(intro x hSx;(try dsimp only at hSx);go_simp;try with_reducible rfl)
   (try simp only [Act.put])
   obtain ⟨_,y0,y1⟩:=HSE.out _ HG1.out;refine wpAnyU_ready (rs:=[10]) (by kernel_rfl) (by simp) ?_;refine AllReadyU.cons rfl (fun Kx hK=>?_) ?_
   rotate_left
   exact AllReadyU.nil
   go_simp
   refine hK.out _ _ ⟨((World.cell?_of_block (heap_set_ne hne)).trans (HSE.out _ HG1.out).1),fun h=>noE (by kernel_rfl) h⟩ (fun hHeld=>?_);clear hK Kx;obtain ⟨hS,_⟩:=hHeld
   (try simp only [Act.put,List.setIfInBounds_toArray,List.set_cons_zero,List.set_cons_succ])
   refine wpAnyU_done (by kernel_rfl) ?_ _;have HE2:=Lib.hid (HMS.out _ HG1.out);rw [HW.out] at HE2;clear hS hE y0 y1 hen;go_wp2_with fail
   go_roundg (m-(i+1))
   case measure=>omega
   case rel=>exact ⟨i+1,rfl,by omega,by simp,HE2.out⟩
  ·obtain rfl:i=m:=by omega
   have hil:¬ ((i:Int)<(i:Int)):=by omega
   have b0:wr.cell? ⟨B,0,none⟩=some (.int .i64 n):=cell_at hM.bx rfl;have b1:wr.cell? ⟨B,1,none⟩=some (.slice (some ⟨G,0,none⟩) i i):=cell_at hM.bx rfl;have z0:wr.cell? ⟨w.heap.size,0,none⟩=some (.int .i64 0):=cell_at hM.rs rfl;have z1:wr.cell? ⟨w.heap.size,1,none⟩=some (.slice none 0 0):=cell_at hM.rs rfl;have f0:=frozen_at 0 hM.rs;have f1:=frozen_at 1 hM.rs;have HM4:=Lib.hid hM;clear hM;go_wp2_with fail;obtain ⟨c0,c1⟩:=box2 HM4.out.rs (.int .i64 n) (.slice (some ⟨G,0,none⟩) i i);refine bodyPost_ret (v:=.agg #[.int .i64 n,.slice (some ⟨G,0,none⟩) i i]) (by simp [results,Tryz.results196,go_sem,c0,c1]) rfl ?_;exact HM4.out.done HOK.out HLT.out
theorem trucount_spec (n:Nat) (w:World) (hn:n<=16):Calls Tryz.prog 195 #[.int .i64 n] w fun e w'=>e=.returned (.int .i64 0)/\w'=w:=by
 have h0:decide ((n:Int)<0)=false:=by simp
 have h1:decide ((16:Int)<(n:Int))=false:=by simp;omega
 go_enter Tryz.func195,Tryz.ntmps195
 go_wp2_with fail;go_ret;exact ⟨rfl,rfl⟩
structure TabQ0 (t:TV) (w:World) (e:Ending) (w':World):Prop where
 ex:∃ c:Value,e=.returned (.tuple #[tabV t c,.int .i64 0])/\TNew w w' c t/\Upd [] w w'
theorem enters_truC:Enters 197:=fun args w=>by simp [go_sem]
theorem enters_truV:Enters 199:=fun args w=>by simp [go_sem]
def ones64 (b:Bool):Int:=if b then 18446744073709551615 else 0
theorem ones64_bits (b:Bool):U64 (ones64 b)/\∀ j,j<64->nb (ones64 b) j=b:=by
 cases b with
 | true =>
  refine ⟨by unfold U64 ones64;simp,fun j hj=>?_⟩;have e2:ones64 true=((2 ^ 64-1:Nat):Int):=rfl
  rw [e2,nb_cast,Nat.testBit_two_pow_sub_one];simp [hj]
 | false=>exact ⟨by unfold U64 ones64;simp,fun j _=>by simp [ones64,nb]⟩
theorem cb_truC (kb:Nat) (b:Bool) (n:Nat) (w0:World) (hb:w0.heap[kb]?=some (.cells #[.bool b] 4 (0,0))):LaidCb 197 #[.pointer (some ⟨kb,0,none⟩)] (fun _=>ones64 b) n (fun z=>Upd [] w0 z):=fun w i hu hi=>by
 have c0:w.cell? ⟨kb,0,none⟩=some (.bool b):=cell_at ((hu.block kb (heap_lt hb) (by simp)).trans hb) rfl;clear hb hu
 show Calls _ _ #[.int .i64 i,.pointer (some ⟨kb,0,none⟩)] _ _
 cases b with
 | true =>
  go_enter Tryz.func197,Tryz.ntmps197
  go_wp2_with fail;go_ret;exact ⟨rfl,Upd.refl _ _⟩
 | false =>
  go_enter Tryz.func197,Tryz.ntmps197
  go_wp2_with fail;go_ret;exact ⟨rfl,Upd.refl _ _⟩
theorem cb_truV (kb v:Nat) (n:Nat) (w0:World) (hv:v<16) (hn:n<=1024) (hb:w0.heap[kb]?=some (.cells #[.int .i64 v] 3 (0,0))):LaidCb 199 #[.pointer (some ⟨kb,0,none⟩)] (fun i=>colI v i) n (fun z=>Upd [] w0 z):=fun w i hu hi=>by
 have c0:w.cell? ⟨kb,0,none⟩=some (.int .i64 v):=cell_at ((hu.block kb (heap_lt hb) (by simp)).trans hb) rfl;have HC:=Lib.hid (trucol_spec v i w hv (by omega));clear hb
 show Calls _ _ #[.int .i64 i,.pointer (some ⟨kb,0,none⟩)] _ fun e w'=>e=.returned (.int .u64 (colI v i))/\Upd [] w w'
 go_enter Tryz.func199,Tryz.ntmps199
 go_wp2_with fail;refine HC.out.mono ?_;rintro e w1 ⟨rfl,rfl⟩;go_wp2_with fail;go_ret;exact ⟨rfl,Upd.refl _ _⟩
theorem wordsN_le {n:Nat} (hn:n<=16):wordsN n<=1024:=by
 have:=(mkT_ok (n:=n) (fun _=>true) hn).len_le
 simpa [mkT] using this
theorem TabQ0.of {w w1 w2:World} {t:TV} {c:Value} {B:Nat} {x y:Value} (u:Upd [] w w1) (h:TNew w1 w2 c t) (u2:Upd [] w1 w2) (hs:w.heap.size<=B) (hb:w1.heap[B]?=some (.cells #[x,y] 122 (0,0))) :
  TabQ0 t w (.returned (.tuple #[tabV t c,.int .i64 0])) ((w2.setCell ⟨B,0,none⟩ (.int .i64 t.n)).setCell ⟨B,1,none⟩ c):=by
 have hlt:=heap_lt hb
 have hne:∀ k,c.ownBlock=some k->k≠B:=fun k hk=>by have:=(h.row.lt k hk).1;omega
 have hn:some B≠c.ownBlock:=fun e=>hne B e.symm rfl
 have hr:=row_ne (row_ne h.row (a:=⟨B,0,none⟩) hn (.int .i64 t.n)) (a:=⟨B,1,none⟩) hn c;have hsz:=u.size;exact ⟨c,rfl,⟨h.ok,row_base hr hsz⟩,(((u.trans u2).setCell (p:=⟨B,0,none⟩) (.inr hs) _).setCell (p:=⟨B,1,none⟩) (.inr hs) _)⟩
theorem truconst_spec (n:Nat) (b:Bool) (w:World) (hn:n<=16):Calls Tryz.prog 128 #[.int .i64 n,.bool b] w fun e w'=>TabQ0 (constT n b) w e w':=by
 have hmf:∀ (fn:Fn) (first cap:Array Value) (w:World),(Instr.makeFunc fn first cap).run Tryz.prog w=.ok (.func fn first cap) w:=fun _ _ _ _=>rfl
 have HC:=Lib.hid (fun z=>trucount_spec n z hn);have hu0:=(Upd.refl [] w).alloc (.cells #[.bool b] 4 (0,0));have hb0:=heap_alloc_new w (.cells #[.bool b] 4 (0,0));have hb1:=heap_alloc_new (w.alloc (.cells #[.bool b] 4 (0,0))) (.cells #[.int .i64 0,.slice none 0 0] 122 (0,0));have hb0':=(heap_alloc_old (w.alloc (.cells #[.bool b] 4 (0,0))) (.cells #[.int .i64 0,.slice none 0 0] 122 (0,0)) (heap_lt hb0)).trans hb0;rw [World.size_alloc] at hb1;have hu1:=hu0.alloc (.cells #[.int .i64 0,.slice none 0 0] 122 (0,0));obtain ⟨w1,hw1⟩ : ∃ w1,(w.alloc (.cells #[.bool b] 4 (0,0))).alloc (.cells #[.int .i64 0,.slice none 0 0] 122 (0,0))=w1:=⟨_,rfl⟩;rw [hw1] at hb1 hb0' hu1;have HL:=Lib.hid (trulaid_spec n 197 #[.pointer (some ⟨w.heap.size,0,none⟩)] (fun _=>ones64 b) w1 hn enters_truC (fun _ _=>(ones64_bits b).1) (cb_truC w.heap.size b _ w1 hb0'))
 have HE:Hid (laidT n (fun _=>ones64 b)=constT n b):=laidT_eq hn (fun _ _=>(ones64_bits b).1) fun i hi j hj _=>(ones64_bits b).2 j hj
 have HM:=Lib.hid (And.intro hu1 hb1);have HW:=Lib.hid hw1;clear hu0 hb0 hb1 hb0' hu1 hw1
 go_enter Tryz.func128,Tryz.ntmps128
 go_upto_region 1 with fail;rw [HW.out];go_wp2_with fail;refine (HC.out _).mono ?_;rintro e w2 ⟨rfl,rfl⟩;go_wp2_with fail;refine HL.out.mono ?_;rintro e w3 hE;obtain ⟨c,rfl,hT,hu3⟩:=hE.ex;rw [HE.out] at hT ⊢;obtain ⟨ta,tc,rfl,_⟩:=row_nil_len hT.row;have hb3:=(hu3.block _ (heap_lt HM.out.2) (by simp)).trans HM.out.2;have z0:w3.cell? ⟨w.heap.size+1,0,none⟩=some (.int .i64 0):=cell_at hb3 rfl;have z1:w3.cell? ⟨w.heap.size+1,1,none⟩=some (.slice none 0 0):=cell_at hb3 rfl;have f0:=frozen_at 0 hb3;have f1:=frozen_at 1 hb3;have HF:=Lib.hid (TabQ0.of HM.out.1 hT hu3 (by omega) HM.out.2);have HB:=Lib.hid hb3;have hfld:=fldT;generalize (constT n b).ws.length=W at *;have hcn:(constT n b).n=n:=rfl;unfold tabV;unfold tabV at HF;rw [hcn] at HF ⊢;clear hE hT hu3 hb3 hcn;go_wp2_with fail;obtain ⟨c0,c1⟩:=box2 HB.out (.int .i64 n) (.slice ta W tc);refine bodyPost_ret (v:=.tuple #[.agg #[.int .i64 n,.slice ta W tc],.int .i64 0]) (by simp [results,Tryz.results128,go_sem,c0,c1]) rfl ?_;exact HF.out
theorem truvar_spec (n v:Nat) (w:World) (hn:n<=16) (hv:v<n):Calls Tryz.prog 131 #[.int .i64 n,.int .i64 v] w fun e w'=>TabQ0 (varT n v) w e w':=by
 have hmf:∀ (fn:Fn) (first cap:Array Value) (w:World),(Instr.makeFunc fn first cap).run Tryz.prog w=.ok (.func fn first cap) w:=fun _ _ _ _=>rfl
 have HC:=Lib.hid (fun z=>trucount_spec n z hn);have hu0:=(Upd.refl [] w).alloc (.cells #[.int .i64 v] 3 (0,0));have hb0:=heap_alloc_new w (.cells #[.int .i64 v] 3 (0,0));have hb1:=heap_alloc_new (w.alloc (.cells #[.int .i64 v] 3 (0,0))) (.cells #[.int .i64 0,.slice none 0 0] 122 (0,0));have hb0':=(heap_alloc_old (w.alloc (.cells #[.int .i64 v] 3 (0,0))) (.cells #[.int .i64 0,.slice none 0 0] 122 (0,0)) (heap_lt hb0)).trans hb0;rw [World.size_alloc] at hb1;have hu1:=hu0.alloc (.cells #[.int .i64 0,.slice none 0 0] 122 (0,0));obtain ⟨w1,hw1⟩ : ∃ w1,(w.alloc (.cells #[.int .i64 v] 3 (0,0))).alloc (.cells #[.int .i64 0,.slice none 0 0] 122 (0,0))=w1:=⟨_,rfl⟩;rw [hw1] at hb1 hb0' hu1;have HL:=Lib.hid (trulaid_spec n 199 #[.pointer (some ⟨w.heap.size,0,none⟩)] (fun i=>colI v i) w1 hn enters_truV (fun _ _=>(colI_bits v _).1) (cb_truV w.heap.size v _ w1 (by omega) (wordsN_le hn) hb0'))
 have HE:Hid (laidT n (fun i=>colI v i)=varT n v):=laidT_eq hn (fun _ _=>(colI_bits v _).1) fun i hi j hj _=>(colI_bits v i).2 j hj
 have HM:=Lib.hid (And.intro hu1 hb1);have HW:=Lib.hid hw1;have v0:w1.cell? ⟨w.heap.size,0,none⟩=some (.int .i64 v):=cell_at hb0' rfl
 have hd0:decide ((v:Int)<0)=false:=by simp
 have hd1:decide ((n:Int)<=(v:Int))=false:=by simp;omega
 have hd2:¬ ((v:Int)<0):=by omega
 have hd3:¬ ((n:Int)<=(v:Int)):=by omega
 clear hu0 hb0 hb1 hb0' hu1 hw1
 go_enter Tryz.func131,Tryz.ntmps131
 go_upto_region 1 with fail;rw [HW.out];go_wp2_with fail;refine (HC.out _).mono ?_;rintro e w2 ⟨rfl,rfl⟩;go_wp2_with fail;refine HL.out.mono ?_;rintro e w3 hE;obtain ⟨c,rfl,hT,hu3⟩:=hE.ex;rw [HE.out] at hT ⊢;obtain ⟨ta,tc,rfl,_⟩:=row_nil_len hT.row;have hb3:=(hu3.block _ (heap_lt HM.out.2) (by simp)).trans HM.out.2;have z0:w3.cell? ⟨w.heap.size+1,0,none⟩=some (.int .i64 0):=cell_at hb3 rfl;have z1:w3.cell? ⟨w.heap.size+1,1,none⟩=some (.slice none 0 0):=cell_at hb3 rfl;have f0:=frozen_at 0 hb3;have f1:=frozen_at 1 hb3;have HF:=Lib.hid (TabQ0.of HM.out.1 hT hu3 (by omega) HM.out.2);have HB:=Lib.hid hb3;have hfld:=fldT;generalize (varT n v).ws.length=W at *;have hcn:(varT n v).n=n:=rfl;unfold tabV;unfold tabV at HF;rw [hcn] at HF ⊢;clear hE hT hu3 hb3 hcn v0 hd0 hd1 hd2 hd3;go_wp2_with fail;obtain ⟨c0,c1⟩:=box2 HB.out (.int .i64 n) (.slice ta W tc);refine bodyPost_ret (v:=.tuple #[.agg #[.int .i64 n,.slice ta W tc],.int .i64 0]) (by simp [results,Tryz.results131,go_sem,c0,c1]) rfl ?_;exact HF.out
theorem full_clear {t:TV} (ht:t.Ok) {X:Int} (hX:t.ws[t.ws.length-1]?=some X):bits BinOp.andNot IntKind.u64 X (fullI t.n)=0:=by
 have hm:=List.mem_of_getElem? hX;have hu:=ht.u X hm
 refine nb_ext (bits_u64 _ _ _) (by unfold U64;omega) fun i hi=>?_
 rw [nb_andNot hu (fullI_bits _).1 hi,(fullI_bits _).2,nb_zero]
 by_cases h6:6<=t.n
 ·have h2:(2:Nat) ^ 6<=2 ^ t.n:=Nat.pow_le_pow_right (by omega) h6
  have:i<2 ^ t.n:=by omega
  simp [hi,this]
 ·by_cases hl:i<2 ^ t.n
  ·simp [hi,hl]
  ·rw [ht.low (by omega) X hm i (by omega)];rfl
theorem truForm_spec (Z:List Nat) (c:Value) (t:TV) (w:World) (h:TIn w Z c t):Calls Tryz.prog 237 #[tabV t c] w fun e w'=>e=.returned (.bool true)/\Upd [] w w':=by
 unfold tabV;obtain ⟨ta,tc,rfl,_⟩:=row_nil_len h.row;have hll:=h.ok.len_le;have h16:=h.ok.n16;have hlen:=h.ok.len;have hpos:=wordsN_pos t.n;have HWS:=Lib.hid (fun z=>truwords_spec t.n z h16);have HFU:=Lib.hid (fun z=>trufull_spec t.n z h16);obtain ⟨X,hX⟩ : ∃ X,t.ws[t.ws.length-1]?=some X:=⟨_,List.getElem?_eq_getElem (by omega)⟩;have HCL:=Lib.hid (full_clear h.ok hX);obtain ⟨ga,rfl⟩:=row_some h.row (by omega);have x0:w.cell? ⟨ga,t.ws.length-1,none⟩=some (.int .u64 X):=row_cell h.row (by rw [flatU,List.getElem?_map,hX];rfl);have hb:=boxT w (.int .i64 t.n) (.slice (some ⟨ga,0,none⟩) t.ws.length tc);rw [<- hlen] at HWS hpos;obtain ⟨m,hm⟩ : ∃ m,t.ws.length=m:=⟨_,rfl⟩;rw [hm] at HWS hll hpos x0 hb ⊢;obtain ⟨j,hmj⟩ : ∃ j,m=j+1:=⟨m-1,by omega⟩;rw [show m-1=j by omega] at x0
 have hsub:((m:Int)-1)=(j:Int):=by omega
 have hjm:(j:Int)<(m:Int):=by omega
 have hjm2:j<m:=by omega
 have hw:IntKind.i64.wrap (j:Int)=(j:Int):=IntWalk.i64_in _ (by omega);generalize t.n=n at *;generalize fullI n=fu at *
 have HSE:Hid (∀ z,Upd [] (w.alloc (.cells #[.int .i64 n,.slice (some ⟨ga,0,none⟩) m tc] 122 (0,0))) z->z.cell? ⟨w.heap.size,0,none⟩=some (.int .i64 n)/\z.cell? ⟨w.heap.size,1,none⟩=some (.slice (some ⟨ga,0,none⟩) m tc)/\z.cell? ⟨ga,j,none⟩=some (.int .u64 X)):=fun z u =>
  ⟨u.cell0 hb.1,u.cell0 hb.2,u.cell0 (((Upd.refl [] w).alloc _).cell0 x0)⟩
 have hn0:decide ((n:Int)<0)=false:=by simp
 have hn1:decide ((16:Int)<(n:Int))=false:=by simp;omega
 have hmm:((m:Int) != (m:Int))=false:=by simp
 have hcl:=HCL.out;have HU0:=Lib.hid ((Upd.refl [] w).alloc (.cells #[.int .i64 n,.slice (some ⟨ga,0,none⟩) m tc] 122 (0,0)));clear h x0 hb hm hlen hX hpos hmj
 go_enter Tryz.func237,Tryz.ntmps237
 go_wp2_with fail
 go_region_held3 (fun z=>z.cell? ⟨w.heap.size,0,none⟩=some (.int .i64 n)/\z.cell? ⟨w.heap.size,1,none⟩=some (.slice (some ⟨ga,0,none⟩) m tc)/\z.cell? ⟨ga,j,none⟩=some (.int .u64 X)) (first | exact HSE.out _ (Upd.refl _ _).drew) (first
  | (go_at_call 235;refine (HWS.out _).mono ?_;rintro e w2 ⟨rfl,rfl⟩))
 go_wp2_with fail
 go_region_held3 (fun z=>z.cell? ⟨w.heap.size,0,none⟩=some (.int .i64 n)/\z.cell? ⟨w.heap.size,1,none⟩=some (.slice (some ⟨ga,0,none⟩) m tc)/\z.cell? ⟨ga,j,none⟩=some (.int .u64 X)) (first | exact HSE.out _ (Upd.refl _ _).drew.drew | exact HSE.out _ (Upd.refl _ _).drew) (first
  | (go_at_call 236;refine (HFU.out _).mono ?_;rintro e w3 ⟨rfl,rfl⟩))
 all_goals go_wp2_with fail
 all_goals go_ret
 all_goals exact ⟨rfl,HU0.out.drew.drew⟩
theorem truform_spec (n0 n:Nat) (Z:List Nat) (v:Value) (L:List TV) (w:World) (h:TLs w n0 Z v L) (hn:∀ t,t∈L->t.n=n) (hl:L.length<=1000):Calls Tryz.prog 201 #[v] w fun e w'=>e=.returned (.bool true)/\Upd [] w w':=by
 obtain ⟨fa,fc,rfl,hfa⟩:=h.form;have HL:=Lib.hid h;have HN:=Lib.hid hn;generalize hm:L.length=m at *;have HM:=Lib.hid hm;clear h hm hn
 go_enter Tryz.func201,Tryz.ntmps201
 go_wp2_with fail
 go_loopg [7] m (fun g s7 wr=>∃ i:Nat,m-i=g/\i<=m/\s7=.int .i64 i/\Upd [] w wr)
 case atStart=>exact ⟨0,by omega,by omega,rfl,Upd.refl _ _⟩
 case round =>
  obtain ⟨i,rfl,hi,rfl,hU⟩:=hrel
  by_cases hlt:i<m
  ·have hil:(i:Int)<(m:Int):=by omega
   have h0l:(0:Int)<(m:Int):=by omega
   have h0n:0<m:=by omega
   obtain ⟨u,hu⟩ : ∃ u,L[i]?=some u:=⟨_,List.getElem?_eq_getElem (by rw [HM.out];exact hlt)⟩;obtain ⟨u0,hu0⟩ : ∃ u,L[0]?=some u:=⟨_,List.getElem?_eq_getElem (by rw [HM.out];omega)⟩;obtain ⟨g,rfl⟩:=hfa (by omega);have hL:=HL.out.keep0 hU;obtain ⟨cu,x0,x1,htu⟩:=hL.at_ hu;obtain ⟨_,y0,_,_⟩:=hL.at_ hu0;obtain ⟨ua,uc,hcu,_⟩:=row_nil_len htu.row;subst hcu;rw [HN.out u (List.mem_of_getElem? hu)] at x0;rw [HN.out u0 (List.mem_of_getElem? hu0),Nat.zero_mul] at y0;have HFM:=Lib.hid (fun z (uz:Upd [] wr z)=>truForm_spec Z _ u z (htu.keep0 uz));have hun:=HN.out u (List.mem_of_getElem? hu);unfold tabV at HFM;rw [hun] at HFM;have hbx:=boxT wr (.int .i64 n) (.slice ua u.ws.length uc)
   have HSE:Hid (∀ z,Upd [] (wr.alloc (.cells #[.int .i64 n,.slice ua u.ws.length uc] 122 (0,0))) z->z.cell? ⟨wr.heap.size,0,none⟩=some (.int .i64 n)/\z.cell? ⟨wr.heap.size,1,none⟩=some (.slice ua u.ws.length uc)/\z.cell? ⟨g,0,none⟩=some (.int .i64 n)):=fun z uz =>
    ⟨uz.cell0 hbx.1,uz.cell0 hbx.2,uz.cell0 (((Upd.refl [] wr).alloc _).cell0 y0)⟩
   have hnn:((n:Int) != (n:Int))=false:=by simp
   have HUA:=Lib.hid ((Upd.refl [] wr).alloc (.cells #[.int .i64 n,.slice ua u.ws.length uc] 122 (0,0)));have HU:=Lib.hid hU;have hUL:u.ws.length<=1024:=htu.ok.len_le;generalize u.ws.length=W at *;clear hU htu hu hu0 hL hbx hun y0;go_wp2_with fail
   go_region_held3 (fun z=>z.cell? ⟨wr.heap.size,0,none⟩=some (.int .i64 n)/\z.cell? ⟨wr.heap.size,1,none⟩=some (.slice ua W uc)/\z.cell? ⟨g,0,none⟩=some (.int .i64 n)) (first | exact HSE.out _ (Upd.refl _ _).drew | exact HSE.out _ HU2.out) (first
    | (go_at_call 237;refine (HFM.out _ HUA.out.drew).mono ?_;rintro e w2 ⟨rfl,hu2⟩;have HU2:=Lib.hid (((Upd.refl [] _).drew).trans hu2);clear hu2))
   go_wp2_with fail
   go_roundg (m-(i+1))
   case measure=>omega
   case rel=>exact ⟨i+1,rfl,by omega,by simp,(HU.out.trans HUA.out).trans HU2.out⟩
  ·obtain rfl:i=m:=by omega
   have hil:¬ ((i:Int)<(i:Int)):=by omega
   have HU:=Lib.hid hU;clear hU;go_wp2_with fail;go_ret;exact ⟨rfl,HU.out⟩
theorem TLs.threeP {W:World} {n0 g:Nat} {Z:List Nat} {d0 d1 d2:Value} {t0 t1 t2:TV} (h:W.heap[g]?=some (.cells #[.int .i64 t0.n,d0,.int .i64 t1.n,d1,.int .i64 t2.n,d2] 122 (0,0))) (h0:TIn W Z d0 t0) (h1:TIn W Z d1 t1) (h2:TIn W Z d2 t2) (hg:n0<=g) (hZ:g∉Z) :
  TLs W n0 Z (.slice (some ⟨g,0,none⟩) 3 3) [t0,t1,t2]:=by
 refine ⟨⟨[d0,d1,d2],rfl,⟨rfl,.inr ⟨g,3,_,rfl,hg,h,Nat.le_refl _,by unfold maxLen;omega,rfl,rfl⟩⟩,fun i t c ht hc=>?_⟩,fun k hk=>?_⟩
 ·match i,ht,hc with
  | 0,ht,hc=>simp at ht hc;subst ht hc;exact h0
  | 1,ht,hc=>simp at ht hc;subst ht hc;exact h1
  | 2,ht,hc=>simp at ht hc;subst ht hc;exact h2
  | i+3,ht,_=>simp at ht
 ·simp [Value.ownBlock] at hk;subst hk;exact hZ
def iteTV (a b c:TV):TV:=mkT a.n fun x=>if a.bit x then b.bit x else c.bit x
def iteW (a b c:TV) (i:Nat):Int:=bits BinOp.or IntKind.u64 (bits BinOp.and IntKind.u64 (a.ws.getD i 0) (b.ws.getD i 0)) (bits BinOp.and IntKind.u64 (bits BinOp.xor IntKind.u64 IntKind.u64.max (a.ws.getD i 0)) (c.ws.getD i 0))
theorem nb_xor {x y:Int} (hx:U64 x) (hy:U64 y) (i:Nat):nb (bits BinOp.xor IntKind.u64 x y) i=(nb x i != nb y i):=by
 rw [nb_bv hx,nb_bv hy];have e:nb (bits BinOp.xor IntKind.u64 x y) i=(BitVec.ofInt 64 x ^^^ BitVec.ofInt 64 y).getLsbD i:=nb_of_bv _ i;rw [e,BitVec.getLsbD_xor]
theorem nb_not {x:Int} (h:U64 x) {i:Nat} (hi:i<64):nb (bits BinOp.xor IntKind.u64 IntKind.u64.max x) i=!nb x i:=by
 have e2:IntKind.u64.max=((2 ^ 64-1:Nat):Int):=rfl;rw [nb_xor (by rw [e2];unfold U64;omega) h,e2,nb_cast,Nat.testBit_two_pow_sub_one]
 simp [hi]
theorem iteW_eq {a b c:TV} (ha:a.Ok) (hb:b.Ok) (hc:c.Ok) (h1:b.n=a.n) (h2:c.n=a.n):laidT a.n (iteW a b c)=iteTV a b c:=by
 have key:∀ {t:TV},t.Ok->t.n=a.n->∀ i,i<wordsN a.n->U64 (t.ws.getD i 0):=fun ht hn i hi=>(ht.word (by rw [hn];exact hi)).1
 refine laidT_eq ha.n16 (fun i hi=>bits_u64 _ _ _) fun i hi j hj hl=>?_
 have a1:=key ha rfl i hi;have b1:=key hb h1 i hi;have c1:=key hc h2 i hi;unfold iteW;rw [nb_or (bits_u64 _ _ _) (bits_u64 _ _ _),nb_and a1 b1,nb_and (bits_u64 _ _ _) c1,nb_not a1 hj];unfold TV.bit;rw [show (64*i+j)/64=i by omega,show (64*i+j) % 64=j by omega]
 cases nb (a.ws.getD i 0) j <;> simp
theorem enters_truI:Enters 202:=fun args w=>by simp [go_sem]
structure TBox (w:World) (B:Nat) (t:TV):Prop where
 ex:∃ g c:Nat,w.heap[B]?=some (.cells #[.int .i64 t.n,.slice (some ⟨g,0,none⟩) t.ws.length c] 122 (0,0))/\TIn w [] (.slice (some ⟨g,0,none⟩) t.ws.length c) t
theorem TBox.keep {w w':World} {B:Nat} {t:TV} (h:TBox w B t) (u:Upd [] w w'):TBox w' B t:=by
 obtain ⟨g,c,h1,h2⟩:=h.ex;exact ⟨g,c,(u.block _ (heap_lt h1) (by simp)).trans h1,h2.keep0 u⟩
theorem cb_truI (A B C m:Nat) (a b c:TV) (w0:World) (ha:TBox w0 A a) (hb:TBox w0 B b) (hc:TBox w0 C c) (la:a.ws.length=m) (lb:b.ws.length=m) (lc:c.ws.length=m) :
  LaidCb 202 #[.pointer (some ⟨A,0,none⟩),.pointer (some ⟨B,0,none⟩),.pointer (some ⟨C,0,none⟩)] (iteW a b c) m (fun z=>Upd [] w0 z):=fun w i hu hi=>by
 obtain ⟨ga,ca,ha1,ha2⟩:=(ha.keep hu).ex;obtain ⟨gb,cb,hb1,hb2⟩:=(hb.keep hu).ex;obtain ⟨gc,cc,hc1,hc2⟩:=(hc.keep hu).ex;have hu64:=(ha2.ok.word (i:=i) (by rw [<- ha2.ok.len,la];exact hi)).1
 have word:∀ {t:TV} {g c:Nat},t.ws.length=m->TIn w [] (.slice (some ⟨g,0,none⟩) t.ws.length c) t->w.cell? ⟨g,i,none⟩=some (.int .u64 (t.ws.getD i 0)):=fun {t g c} hl h=>row_cell h.row (by
  rw [flatU,List.getElem?_map,List.getD_eq_getElem?_getD,List.getElem?_eq_getElem (by omega)];rfl)
 have x1:=word la ha2;have x2:=word lb hb2;have x3:=word lc hc2;have a1:w.cell? ⟨A,1,none⟩=some (.slice (some ⟨ga,0,none⟩) a.ws.length ca):=cell_at ha1 rfl;have b1:w.cell? ⟨B,1,none⟩=some (.slice (some ⟨gb,0,none⟩) b.ws.length cb):=cell_at hb1 rfl;have c1:w.cell? ⟨C,1,none⟩=some (.slice (some ⟨gc,0,none⟩) c.ws.length cc):=cell_at hc1 rfl;rw [la] at a1;rw [lb] at b1;rw [lc] at c1
 have hil:(i:Int)<(m:Int):=by omega
 show Calls _ _ #[.int .i64 i,.pointer (some ⟨A,0,none⟩),.pointer (some ⟨B,0,none⟩),.pointer (some ⟨C,0,none⟩)] _ fun e w'=>e=.returned (.int .u64 (iteW a b c i))/\Upd [] w w'
 unfold iteW;generalize a.ws.getD i 0=X at *;generalize b.ws.getD i 0=Y at *;generalize c.ws.getD i 0=V at *;clear ha hb hc ha1 ha2 hb1 hb2 hc1 hc2 word hu
 go_enter Tryz.func202,Tryz.ntmps202
 go_wp2_with fail
 go_quiet (fail)
 go_wp2_with fail;go_ret;exact ⟨rfl,(Upd.refl _ _).drewN nq⟩
theorem boxT4 (w:World) (o1 o2 o3 o4:Obj):((((w.alloc o1).alloc o2).alloc o3).alloc o4).heap[w.heap.size]?=some o1/\((((w.alloc o1).alloc o2).alloc o3).alloc o4).heap[w.heap.size+1]?=some o2/\((((w.alloc o1).alloc o2).alloc o3).alloc o4).heap[w.heap.size+1+1]?=some o3/\((((w.alloc o1).alloc o2).alloc o3).alloc o4).heap[w.heap.size+1+1+1]?=some o4 /\
  Upd [] w ((((w.alloc o1).alloc o2).alloc o3).alloc o4):=by
 have n1:=heap_alloc_new w o1;have n2:=heap_alloc_new (w.alloc o1) o2;have n3:=heap_alloc_new ((w.alloc o1).alloc o2) o3;have n4:=heap_alloc_new (((w.alloc o1).alloc o2).alloc o3) o4
 have old:∀ (z:World) (o:Obj) {k:Nat} {x:Obj},z.heap[k]?=some x->(z.alloc o).heap[k]?=some x:=fun z o k x h=>(heap_alloc_old z o (heap_lt h)).trans h
 simp only [World.size_alloc] at n2 n3 n4 ⊢
 exact ⟨old _ _ (old _ _ (old _ _ n1)),old _ _ (old _ _ n2),old _ _ n3,n4,((((Upd.refl [] w).alloc o1).alloc o2).alloc o3).alloc o4⟩
theorem truite_spec (a b c:TV) (va vb vc:Value) (w:World) (ha:TIn w [] va a) (hb:TIn w [] vb b) (hc:TIn w [] vc c) (h1:b.n=a.n) (h2:c.n=a.n) :
  Calls Tryz.prog 132 #[tabV a va,tabV b vb,tabV c vc] w fun e w'=>TabQ0 (iteTV a b c) w e w':=by
 have hmf:∀ (fn:Fn) (first cap:Array Value) (w:World),(Instr.makeFunc fn first cap).run Tryz.prog w=.ok (.func fn first cap) w:=fun _ _ _ _=>rfl
 obtain ⟨aa,ac,rfl,_⟩:=row_nil_len ha.row;obtain ⟨ba,bc,rfl,_⟩:=row_nil_len hb.row;obtain ⟨ca,cc,rfl,_⟩:=row_nil_len hc.row;have hpos:=wordsN_pos a.n;have la:=ha.ok.len;have lb:=hb.ok.len;have lc:=hc.ok.len;rw [h1] at lb;rw [h2] at lc;obtain ⟨ga,rfl⟩:=row_some ha.row (by omega);obtain ⟨gb,rfl⟩:=row_some hb.row (by omega);obtain ⟨gc,rfl⟩:=row_some hc.row (by omega);obtain ⟨x1,x2,x3,x4,hu0⟩:=boxT4 w (.cells #[.int .i64 a.n,.slice (some ⟨ga,0,none⟩) a.ws.length ac] 122 (0,0)) (.cells #[.int .i64 a.n,.slice (some ⟨gb,0,none⟩) b.ws.length bc] 122 (0,0)) (.cells #[.int .i64 a.n,.slice (some ⟨gc,0,none⟩) c.ws.length cc] 122 (0,0)) (.cells #[.int .i64 0,.slice none 0 0] 122 (0,0));obtain ⟨w4,hw4⟩ : ∃ w4,((((w.alloc (.cells #[.int .i64 a.n,.slice (some ⟨ga,0,none⟩) a.ws.length ac] 122 (0,0))).alloc (.cells #[.int .i64 a.n,.slice (some ⟨gb,0,none⟩) b.ws.length bc] 122 (0,0))).alloc (.cells #[.int .i64 a.n,.slice (some ⟨gc,0,none⟩) c.ws.length cc] 122 (0,0))).alloc (.cells #[.int .i64 0,.slice none 0 0] 122 (0,0)))=w4:=⟨_,rfl⟩;rw [hw4] at x1 x2 x3 x4 hu0;have HA:=Lib.hid (show TBox w4 w.heap.size a from ⟨ga,ac,x1,ha.keep0 hu0⟩);have HB:=Lib.hid (show TBox w4 (w.heap.size+1) b from ⟨gb,bc,by rw [h1];exact x2,hb.keep0 hu0⟩);have HC:=Lib.hid (show TBox w4 (w.heap.size+1+1) c from ⟨gc,cc,by rw [h2];exact x3,hc.keep0 hu0⟩);have a0:w4.cell? ⟨w.heap.size,0,none⟩=some (.int .i64 a.n):=cell_at x1 rfl;have a1:w4.cell? ⟨w.heap.size,1,none⟩=some (.slice (some ⟨ga,0,none⟩) a.ws.length ac):=cell_at x1 rfl;have b0:w4.cell? ⟨w.heap.size+1,0,none⟩=some (.int .i64 a.n):=cell_at x2 rfl;have b1:w4.cell? ⟨w.heap.size+1,1,none⟩=some (.slice (some ⟨gb,0,none⟩) b.ws.length bc):=cell_at x2 rfl;have d0:w4.cell? ⟨w.heap.size+1+1,0,none⟩=some (.int .i64 a.n):=cell_at x3 rfl;have d1:w4.cell? ⟨w.heap.size+1+1,1,none⟩=some (.slice (some ⟨gc,0,none⟩) c.ws.length cc):=cell_at x3 rfl;have HX4:=Lib.hid (And.intro x4 hu0);have hfb:=heap_alloc_new w4 (.cells #[.int .i64 a.n,.slice (some ⟨ga,0,none⟩) a.ws.length ac,.int .i64 a.n,.slice (some ⟨gb,0,none⟩) b.ws.length bc,.int .i64 a.n,.slice (some ⟨gc,0,none⟩) c.ws.length cc] 122 (0,0));have hu5:Upd [] w4 (w4.alloc (.cells #[.int .i64 a.n,.slice (some ⟨ga,0,none⟩) a.ws.length ac,.int .i64 a.n,.slice (some ⟨gb,0,none⟩) b.ws.length bc,.int .i64 a.n,.slice (some ⟨gc,0,none⟩) c.ws.length cc] 122 (0,0))):=(Upd.refl _ _).alloc _;have HF:=Lib.hid (truform_spec 0 a.n [] _ [a,b,c] _ (TLs.threeP (Z:=[]) (n0:=0) (by rw [h1,h2];exact hfb) (ha.keep0 (hu0.trans hu5)) (hb.keep0 (hu0.trans hu5)) (hc.keep0 (hu0.trans hu5)) (Nat.zero_le _) (by simp)) (fun t ht=>by simp at ht;rcases ht with rfl | rfl | rfl <;> first | rfl | assumption) (by simp));have HU5:=Lib.hid hu5;have HW4:=Lib.hid hw4;have HE:Hid (laidT a.n (iteW a b c)=iteTV a b c):=iteW_eq ha.ok hb.ok hc.ok h1 h2
 have HL:Hid (∀ z,Upd [] w4 z->Calls Tryz.prog 196 #[.int .i64 a.n,.func (Fn.func 202) #[] #[.pointer (some ⟨w.heap.size,0,none⟩),.pointer (some ⟨w.heap.size+1,0,none⟩),.pointer (some ⟨w.heap.size+1+1,0,none⟩)]] z fun e w'=>TabQ (laidT a.n (iteW a b c)) z e w'):=fun z u =>
  trulaid_spec a.n 202 _ (iteW a b c) z ha.ok.n16 enters_truI (fun _ _=>bits_u64 _ _ _) (cb_truI _ _ _ _ a b c z (HA.out.keep u) (HB.out.keep u) (HC.out.keep u) la lb lc)
 have hfld:=fldT
 have hsh:#[tabV a (.slice (some ⟨ga,0,none⟩) a.ws.length ac),tabV b (.slice (some ⟨gb,0,none⟩) b.ws.length bc),tabV c (.slice (some ⟨gc,0,none⟩) c.ws.length cc)]=#[Value.agg #[.int .i64 a.n,.slice (some ⟨ga,0,none⟩) a.ws.length ac],.agg #[.int .i64 a.n,.slice (some ⟨gb,0,none⟩) b.ws.length bc],.agg #[.int .i64 a.n,.slice (some ⟨gc,0,none⟩) c.ws.length cc]]:=by unfold tabV;rw [h1,h2]
 rw [hsh];clear hsh h1 h2;clear x1 x2 x3 x4 hu0 hfb hu5 hw4 ha hb hc la lb lc hpos
 go_enter Tryz.func132,Tryz.ntmps132
 go_upto_region 1 with fail;rw [HW4.out];go_wp2_with fail;refine HF.out.mono ?_;rintro e w6 ⟨rfl,hu⟩;have HU6:=Lib.hid (HU5.out.trans hu);have e0:=HU6.out.cell0 a0;clear hu a0 a1 b0 b1 d0 d1;go_wp2_with fail;refine (HL.out w6 HU6.out).mono ?_;rintro e w7 hE;obtain ⟨cv,rfl,hT,hu3⟩:=hE.ex;rw [HE.out] at hT ⊢;obtain ⟨ta,tc,rfl,_⟩:=row_nil_len hT.row;have hb6:=(HU6.out.block _ (heap_lt HX4.out.1) (by simp)).trans HX4.out.1;have hb3:=(hu3.block _ (heap_lt hb6) (by simp)).trans hb6;have z0:w7.cell? ⟨w.heap.size+1+1+1,0,none⟩=some (.int .i64 0):=cell_at hb3 rfl;have z1:w7.cell? ⟨w.heap.size+1+1+1,1,none⟩=some (.slice none 0 0):=cell_at hb3 rfl;have f0:=frozen_at 0 hb3;have f1:=frozen_at 1 hb3;have HFF:=Lib.hid (TabQ0.of (HX4.out.2.trans HU6.out) hT hu3 (by omega) hb6);have HBB:=Lib.hid hb3;have hcn:(iteTV a b c).n=a.n:=rfl;generalize (iteTV a b c).ws.length=W at *;unfold tabV;unfold tabV at HFF;rw [hcn] at HFF ⊢;clear hE hT hu3 hb3 hb6 hcn;go_wp2_with fail;obtain ⟨c0,c1⟩:=box2 HBB.out (.int .i64 a.n) (.slice ta W tc);refine bodyPost_ret (v:=.tuple #[.agg #[.int .i64 a.n,.slice ta W tc],.int .i64 0]) (by simp [results,Tryz.results132,go_sem,c0,c1]) rfl ?_;exact HFF.out
theorem enters_table:Enters 130:=fun args w=>by simp [go_sem]
structure TabQN (t:TV) (w:World) (e:Ending) (w':World):Prop where
 ex:∃ c:Value,e=.returned (tabV t c)/\TNew w w' c t/\Upd [] w w'
theorem TabQN.of {w w1 w2 w3:World} {t:TV} {c:Value} {B:Nat} {x y:Value} (u:Upd [] w w1) (h:TNew w1 w2 c t) (u2:Upd [] w1 w2) (u3:Upd [] w2 w3) (hs:w.heap.size<=B) (hb:w1.heap[B]?=some (.cells #[x,y] 122 (0,0))) :
  TabQN t w (.returned (tabV t c)) ((w3.setCell ⟨B,0,none⟩ (.int .i64 t.n)).setCell ⟨B,1,none⟩ c):=by
 have hlt:=heap_lt hb
 have hne:∀ k,c.ownBlock=some k->k≠B:=fun k hk=>by have:=(h.row.lt k hk).1;omega
 have hn:some B≠c.ownBlock:=fun e=>hne B e.symm rfl
 have hr0:=row_keep h.row fun k hk=>u3.block k (h.row.lt k hk).2 (by simp)
 have hr:=row_ne (row_ne hr0 (a:=⟨B,0,none⟩) hn (.int .i64 t.n)) (a:=⟨B,1,none⟩) hn c;have hsz:=u.size;exact ⟨c,rfl,⟨h.ok,row_base hr hsz⟩,((((u.trans u2).trans u3).setCell (p:=⟨B,0,none⟩) (.inr hs) _).setCell (p:=⟨B,1,none⟩) (.inr hs) _)⟩
theorem cb_table (kb n v y z:Nat) (lo hi:TV) (cl ch:Value) (w:World) (hb:w.heap[kb]?=some (.cells #[.int .i64 n] 3 (0,0))) (hn:n<=16) (hv:v<n) (tl:TIn w [] cl lo) (th:TIn w [] ch hi) (hl:lo.n=n) (hh:hi.n=n) :
  Calls Tryz.prog 130 #[.agg #[.int .i64 v,.int .u32 y,.int .u32 z],tabV lo cl,tabV hi ch,.pointer (some ⟨kb,0,none⟩)] w fun e w'=>TabQN (iteTV (varT n v) hi lo) w e w':=by
 obtain ⟨la,lc,rfl,_⟩:=row_nil_len tl.row;obtain ⟨ha,hc,rfl,_⟩:=row_nil_len th.row;obtain ⟨x1,x2,x3,x4,hu0⟩:=boxT4 w (.cells #[.int .i64 v,.int .u32 y,.int .u32 z] 116 (0,0)) (.cells #[.int .i64 n,.slice la lo.ws.length lc] 122 (0,0)) (.cells #[.int .i64 n,.slice ha hi.ws.length hc] 122 (0,0)) (.cells #[.int .i64 0,.slice none 0 0] 122 (0,0));obtain ⟨w4,hw4⟩ : ∃ w4,((((w.alloc (.cells #[.int .i64 v,.int .u32 y,.int .u32 z] 116 (0,0))).alloc (.cells #[.int .i64 n,.slice la lo.ws.length lc] 122 (0,0))).alloc (.cells #[.int .i64 n,.slice ha hi.ws.length hc] 122 (0,0))).alloc (.cells #[.int .i64 0,.slice none 0 0] 122 (0,0)))=w4:=⟨_,rfl⟩;rw [hw4] at x1 x2 x3 x4 hu0;have HW4:=Lib.hid hw4;have HX4:=Lib.hid (And.intro x4 hu0);have k0:=hu0.cell0 (cell_at (j:=0) hb rfl:w.cell? ⟨kb,0,none⟩=some (.int .i64 n));have n0:w4.cell? ⟨w.heap.size,0,none⟩=some (.int .i64 v):=cell_at x1 rfl
 have HL0:Hid (∀ z,Upd [] w4 z->z.cell? ⟨w.heap.size+1,0,none⟩=some (.int .i64 n)/\z.cell? ⟨w.heap.size+1,1,none⟩=some (.slice la lo.ws.length lc)/\z.cell? ⟨w.heap.size+1+1,0,none⟩=some (.int .i64 n)/\z.cell? ⟨w.heap.size+1+1,1,none⟩=some (.slice ha hi.ws.length hc)):=fun z u =>
  ⟨u.cell0 (cell_at x2 rfl),u.cell0 (cell_at x2 rfl),u.cell0 (cell_at x3 rfl),u.cell0 (cell_at x3 rfl)⟩
 have HT:=Lib.hid (And.intro (tl.keep0 hu0) (th.keep0 hu0));have HV:=Lib.hid (truvar_spec n v w4 hn hv);have HNN:=Lib.hid (And.intro hl hh);have hfld:=fldT
 have hsh:#[Value.agg #[.int .i64 v,.int .u32 y,.int .u32 z],tabV lo (.slice la lo.ws.length lc),tabV hi (.slice ha hi.ws.length hc),.pointer (some ⟨kb,0,none⟩)]=#[Value.agg #[.int .i64 v,.int .u32 y,.int .u32 z],.agg #[.int .i64 n,.slice la lo.ws.length lc],.agg #[.int .i64 n,.slice ha hi.ws.length hc],.pointer (some ⟨kb,0,none⟩)]:=by unfold tabV;rw [hl,hh]
 rw [hsh];clear hsh x1 x2 x3 x4 hu0 hw4 tl th hl hh hb
 go_enter Tryz.func130,Tryz.ntmps130
 go_upto_region 1 with fail;rw [HW4.out];go_wp2_with fail;refine HV.out.mono ?_;rintro e w5 hE;obtain ⟨c5,rfl,hT5,hu5⟩:=hE.ex;obtain ⟨va,vc,rfl,_⟩:=row_nil_len hT5.row;have hbx:=boxT w5 (.int .i64 n) (.slice va (varT n v).ws.length vc);have hu6:Upd [] w5 (w5.alloc (.cells #[.int .i64 n,.slice va (varT n v).ws.length vc] 122 (0,0))):=(Upd.refl _ _).alloc _;have HI:=Lib.hid (truite_spec (varT n v) hi lo _ _ _ _ ((hT5.tin (Z:=[]) (by simp)).keep0 hu6) (HT.out.2.keep0 (hu5.trans hu6)) (HT.out.1.keep0 (hu5.trans hu6)) HNN.out.2 HNN.out.1);have HU6:=Lib.hid (hu5.trans hu6);obtain ⟨l0,l1,h0,h1⟩:=HL0.out _ HU6.out;have v0:=hbx.1;have v1:=hbx.2;have e1:tabV (varT n v) (.slice va (varT n v).ws.length vc)=.agg #[.int .i64 n,.slice va (varT n v).ws.length vc]:=rfl
 have e2:tabV hi (.slice ha hi.ws.length hc)=.agg #[.int .i64 n,.slice ha hi.ws.length hc]:=by unfold tabV;rw [HNN.out.2]
 have e3:tabV lo (.slice la lo.ws.length lc)=.agg #[.int .i64 n,.slice la lo.ws.length lc]:=by unfold tabV;rw [HNN.out.1]
 rw [e1,e2,e3] at HI;rw [e1];generalize (varT n v).ws.length=Wv at *;generalize hi.ws.length=Wh at *;generalize lo.ws.length=Wl at *;clear hE hT5 hu5 hbx hu6 e1 e2 e3 k0 n0;go_wp2_with fail;refine HI.out.mono ?_;rintro e w7 hE;obtain ⟨c7,rfl,hT7,hu7⟩:=hE.ex;obtain ⟨ra,rc,rfl,_⟩:=row_nil_len hT7.row;have hn7:(iteTV (varT n v) hi lo).n=n:=rfl;have hb6:=(HU6.out.block _ (heap_lt HX4.out.1) (by simp)).trans HX4.out.1;have hb7:=(hu7.block _ (heap_lt hb6) (by simp)).trans hb6;have hu8:Upd [] w7 (w7.alloc (.cells #[.int .i64 n,.slice ra (iteTV (varT n v) hi lo).ws.length rc] 122 (0,0))):=(Upd.refl _ _).alloc _;have hb8:=(hu8.block _ (heap_lt hb7) (by simp)).trans hb7;have hr8:=boxT w7 (.int .i64 n) (.slice ra (iteTV (varT n v) hi lo).ws.length rc);have HFF:=Lib.hid (TabQN.of (HX4.out.2.trans HU6.out) hT7 hu7 hu8 (by omega) hb6);have r0:=hr8.1;have r1:=hr8.2;have z0:(w7.alloc (.cells #[.int .i64 n,.slice ra (iteTV (varT n v) hi lo).ws.length rc] 122 (0,0))).cell? ⟨w.heap.size+1+1+1,0,none⟩=some (.int .i64 0):=cell_at hb8 rfl;have z1:(w7.alloc (.cells #[.int .i64 n,.slice ra (iteTV (varT n v) hi lo).ws.length rc] 122 (0,0))).cell? ⟨w.heap.size+1+1+1,1,none⟩=some (.slice none 0 0):=cell_at hb8 rfl;have f0:=frozen_at 0 hb8;have f1:=frozen_at 1 hb8;have HBB:=Lib.hid hb8;generalize (iteTV (varT n v) hi lo).ws.length=W at *;unfold tabV;unfold tabV at HFF;rw [hn7] at HFF ⊢;clear hE hT7 hu7 hb6 hb7 hu8 hb8 hr8 hn7 l0 l1 h0 h1 v0 v1;go_wp2_with fail;obtain ⟨c0,c1⟩:=box2 HBB.out (.int .i64 n) (.slice ra W rc);refine bodyPost_ret (v:=.agg #[.int .i64 n,.slice ra W rc]) (by simp [results,Tryz.results130,go_sem,c0,c1]) rfl ?_;exact HFF.out
end Go.Proofs.YtfkopmhpppeheaaGreat
