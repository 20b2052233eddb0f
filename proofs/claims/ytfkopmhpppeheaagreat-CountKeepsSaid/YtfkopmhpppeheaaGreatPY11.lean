import Derived.Test.YtfkopmhpppeheaaGreatPY10
import Derived.Test.YtfkopmhpppeheaaGreatPY7
import Derived.Test.YtfkopmhpppeheaaGreatPY8
import Derived.Deep.QuietTactic
set_option maxRecDepth 100000
set_option maxHeartbeats 3200000
namespace Go.Proofs.YtfkopmhpppeheaaGreat
open Go.RowKit Go.Maps Go.ChangeMaps Go.WideShapes
structure OpPost (b:Nat) (K0:KV) (q:KPtr) (t:(Nat->Bool)->Bool) (w:World) (e:Ending) (w':World):Prop where
 ex:∃ (r:Nat) (code:Int) (K':KV) (T':List DM) (q':KPtr),e=.returned (.tuple #[.int .u32 r,.int .i64 code])/\OpR K0 t r code K'/\KerIn w' b K' T' q'/\Upd (q.all b) w w'/\Sub (q.all b) w (q'.all b)
theorem OpPost.of_run {b wb f g h:Nat} {K0:KV} {q:KPtr} {L:Bool->Bool->Bool->Bool} {lvv:Value} {w w1 w':World} {e:Ending} (hk:K0.Ok) (hA:AskQ K0 f g h) (hu:Upd [] w w1) (hF:∀ k,k∈workF wb lvv (.slice none 0 0)->w.heap.size<=k)
  (R:RunPost b K0 q L f g h (wkF wb b q lvv (.slice none 0 0)) w1 e w'):OpPost b K0 q (K0.fun3 L f g h) w e w':=by
 obtain ⟨r,code,K1,M,K',T',q',rfl,S,h1,hu1,X,hk',hu',hs'⟩:=R.ex
 have hin:∀ k,k∈wkF wb b q lvv (.slice none 0 0)->k∈q.all b\/w.heap.size<=k:=fun k hk=>by
  rcases List.mem_append.1 hk with h | h
  ·exact .inl h
  ·exact .inr (hF k h)
 have hsz:=hu.size;refine ⟨_,_,K',T',q',rfl,op_of hk h1 hk'.ok hA S X,hk',(hu.mono (by simp):Upd (q.all b) w w1).then hu' hin,fun k hk=>?_⟩
 rcases hs' k hk with h | h
 ·exact hin k h
 ·right;omega
theorem binary_live (b op f g:Nat) (K:KV) (T:List DM) (q:KPtr) (w:World) (h:KerIn w b K T q) (ho:op<=15) (hf:K.A.tk f=true) (hg:K.A.tk g=true) :
  Calls Tryz.prog 92 #[.pointer (some ⟨b,0,none⟩),.int .u8 op,.int .u32 f,.int .u32 g] w fun e w'=>OpPost b K q (K.fun3 (fun x y _=>opB op x y) f g 0) w e w':=by
 have hmf:∀ (fn:Fn) (first cap:Array Value) (w:World),(Instr.makeFunc fn first cap).run Tryz.prog w=.ok (.func fn first cap) w:=fun _ _ _ _=>rfl
 have hob:decide ((15:Int)<(op:Int))=false:=by simp;omega
 have hob2:decide (15<op)=false:=by simp;omega
 have HK:=Lib.hid h;have HA:Hid (AskQ K f g 0):=⟨hf,hg,h.ok.wf.ok.tk01.1⟩;have HBX:Hid ((w.alloc (.cells #[.int .u8 op] 5 (0,0))).heap[w.heap.size]?=some (.cells #[.int .u8 op] 5 (0,0))):=heap_alloc_new w _;have x0:=cell_at (j:=0) HBX.out rfl
 have HROW:Hid (((w.alloc (.cells #[.int .u8 op] 5 (0,0))).alloc (.cells #[.int .u32 f,.int .u32 g] 77 (0,0))).ownsRow 0 77 1 (.slice (some ⟨w.heap.size+1,0,none⟩) 2 2) [f,g].length (flatRefs [f,g])):=by
  have:=World.ownsRow_lit (base:=0) (e:=77) (size:=1) (w.alloc (.cells #[.int .u8 op] 5 (0,0))) #[.int .u32 f,.int .u32 g] 2 (Nat.zero_le _) (by unfold maxLen;omega) rfl;rw [World.size_alloc] at this;exact this
 have HU:Hid (Upd [] w ((w.alloc (.cells #[.int .u8 op] 5 (0,0))).alloc (.cells #[.int .u32 f,.int .u32 g] 77 (0,0)))):=((Upd.refl [] w).alloc _).alloc _
 have HL:Hid (∀ r,r∈[f,g]->K.A.tk r=true):=fun r hr=>by
  simp only [List.mem_cons,List.not_mem_nil,or_false] at hr
  rcases hr with rfl | rfl
  ·exact hf
  ·exact hg
 clear h hf hg
 go_enter Tryz.func92,Tryz.ntmps92
 go_wp2_with fail;refine (begin_ok b K T q _ [f,g] _ (HK.out.upd HU.out (by simp)) HROW.out HL.out (by simp)).mono ?_;rintro e w1 ⟨wb,lvv,rfl,hW,hu,hF⟩;have hsz:=HU.out.size;have HB1:Hid (w1.heap[w.heap.size]?=some (.cells #[.int .u8 op] 5 (0,0))):=(hu.block _ (by rw [World.size_alloc,World.size_alloc];omega) (by simp)).trans ((heap_alloc_old _ _ (heap_lt HBX.out)).trans HBX.out);have HW:=Lib.hid (And.intro hW (And.intro (HU.out.trans hu) (fun k hk=>Nat.le_trans hsz (hF k hk):∀ k,k∈workF wb lvv (.slice none 0 0)->w.heap.size<=k)))
 have HLF:Hid (LeafOk w1 165 #[.pointer (some ⟨w.heap.size,0,none⟩)] [w.heap.size] (fun x y _=>opB op x y)):=fun w' hw' x y z=>by
  have e:=(hw' w.heap.size (by simp)).trans HB1.out;exact leafB_spec op w.heap.size x y z w' ho (cell_at e rfl)
 have HDJ:Hid (∀ k,k∈wkF wb b q lvv (.slice none 0 0)->k∉[w.heap.size]):=fun k hk hm=>by
  simp only [List.mem_singleton] at hm
  subst hm
  rcases List.mem_append.1 hk with h1 | h1
  ·have:=HK.out.mem.lt _ h1;omega
  ·have:=hF _ h1
   rw [World.size_alloc,World.size_alloc] at this;omega
 clear hW hu hF x0;go_wp2_with fail;refine (wrun_spec wb b 165 f g 0 #[.pointer (some ⟨w.heap.size,0,none⟩)] [w.heap.size] (fun x y _=>opB op x y) K T q lvv w1 HW.out.1 HA.out HLF.out (fun k hk=>by simp only [List.mem_singleton] at hk;subst hk;exact heap_lt HB1.out) HDJ.out enters_B).mono ?_;rintro e w2 hR;obtain ⟨r,code,K',T',q',rfl,hE⟩:=(OpPost.of_run HK.out.ok HA.out HW.out.2.1 HW.out.2.2 hR).ex;have HE:=Lib.hid hE;clear hR hE;go_wp2_with fail;go_ret2;exact ⟨r,code,K',T',q',rfl,HE.out⟩
end Go.Proofs.YtfkopmhpppeheaaGreat
namespace Go.Proofs.YtfkopmhpppeheaaGreat
def KV.lives (K:KV):List Nat:=(List.range K.A.list.length).filter fun r=>K.A.tk r
theorem KV.mem_lives {K:KV} {x:Nat}:x∈K.lives↔K.A.tk x=true:=by
 simp only [KV.lives,List.mem_filter,List.mem_range]
 exact ⟨fun h=>h.2,fun h=>⟨ArenaV.tk_lt h,h⟩⟩
theorem KV.lives_nodup (K:KV):K.lives.Nodup:=List.Pairwise.filter _ List.nodup_range
theorem KV.lives_len {K:KV} {P:List Nat} (h:K.Wf P):K.lives.length=K.A.used:=by
 have hus:=h.ok.us
 have e1:K.A.free.length=((List.range K.A.list.length).filter fun r=>!(K.A.tk r)).length:=by
  have hfr:∀ r,r∈K.A.free↔r∈(List.range K.A.list.length).filter fun r=>!(K.A.tk r):=by
   intro r
   rw [h.ok.fr r,List.mem_filter,List.mem_range];constructor
   ·rintro ⟨p,hp,hpt⟩
    refine ⟨(List.getElem?_eq_some_iff.1 hp).1,?_⟩
    simp [ArenaV.tk,hp,hpt]
   ·rintro ⟨hl,ht⟩
    refine ⟨K.A.list[r],List.getElem?_eq_getElem hl,?_⟩
    simpa [ArenaV.tk,List.getElem?_eq_getElem hl] using ht
  refine Nat.le_antisymm ?_ ?_
  ·exact List.Nodup.length_le_of_subset h.ok.nd fun r hr=>(hfr r).1 hr
  ·exact List.Nodup.length_le_of_subset (List.Pairwise.filter _ List.nodup_range) fun r hr=>(hfr r).2 hr
 have e2:(List.range K.A.list.length).length=K.lives.length+((List.range K.A.list.length).filter fun r=>!(K.A.tk r)).length:=by
  rw [KV.lives,<- List.countP_eq_length_filter,<- List.countP_eq_length_filter];have hh:=List.length_eq_countP_add_countP (fun r=>K.A.tk r) (l:=List.range K.A.list.length);rw [hh]
  congr 2
  funext a
  cases K.A.tk a <;> rfl
 rw [List.length_range] at e2;omega
theorem KV.used_ge {K:KV} {P:List Nat} (h:K.Wf P) {l:List Nat} (hn:l.Nodup) (hl:∀ x,x∈l->K.A.tk x=true):l.length<=K.A.used:=by
 rw [<- K.lives_len h]
 exact List.Nodup.length_le_of_subset hn fun x hx=>KV.mem_lives.2 (hl x hx)
theorem KV.sub_live {K:KV} (hk:K.Ok) (l:Nat) (a:Nat->Bool):∀ (n r:Nat),K.vars-K.dep r<=n->K.A.tk r=true->∃ x,K.A.tk x=true/\∀ y,K.den x y=K.den r (K.mix l a y)
 | n,r,hn,ht=>by
  by_cases hl:l<=K.dep r
  ·refine ⟨r,ht,fun y=>KV.den_same hk.wf hk.ord _ r _ _ ht (Nat.le_refl _) fun v hv hd=>?_⟩
   simp only [KV.mix]
   rw [if_neg (by omega)]
  ·by_cases h2:2<=r
   ·obtain ⟨p,v,hp,hpt,hv,hvl,h3,h4,hd⟩:=hk.wf.node_at h2 ht
    have hb:=hk.ord.below hk.wf h2 hp hpt;have hdl:=hk.wf.dep_lt hk.ord h2 ht;have hlo:=hk.wf.dep_le hk.ord h3;have hhi:=hk.wf.dep_le hk.ord h4
    match n,hn with
    | 0,hn=>omega
    | n+1,hn =>
     have em:∀ y,K.mix l a y v=a v:=fun y=>by simp only [KV.mix];rw [if_pos ⟨hvl,by omega⟩]
     have e:∀ y,K.den r (K.mix l a y)=if a v then K.den p.hi (K.mix l a y) else K.den p.lo (K.mix l a y):=fun y=>by
      rw [KV.den_node hk.wf hk.ord h2 hp hpt,show p.var.toNat=v by omega,em]
     cases ha:a v with
     | true =>
      obtain ⟨x,tx,hx⟩:=KV.sub_live hk l a n p.hi (by omega) h4;exact ⟨x,tx,fun y=>by rw [hx,e,ha];simp⟩
     | false =>
      obtain ⟨x,tx,hx⟩:=KV.sub_live hk l a n p.lo (by omega) h3;exact ⟨x,tx,fun y=>by rw [hx,e,ha];simp⟩
   ·refine ⟨r,ht,fun y=>?_⟩
    rw [K.den_const (by omega),K.den_const (by omega)]
end Go.Proofs.YtfkopmhpppeheaaGreat
namespace Go.Proofs.YtfkopmhpppeheaaGreat
open Go.RowKit Go.Maps Go.ChangeMaps Go.WideShapes
theorem cconst_spec (r:Nat) (w:World):Calls Tryz.prog 180 #[.int .u32 r] w fun e w'=>e=.returned (.bool (decide (r<2)))/\w'=w:=by
 by_cases h0:r=0
 ·subst h0
  go_enter Tryz.func180,Tryz.ntmps180
  go_wp2_with fail;go_ret;exact ⟨rfl,rfl⟩
 ·have hb0:((r:Int) == 0)=false:=by simp;omega
  have hb2:¬ (r=0):=h0
  have HD:Hid (((r:Int) == 1)=decide (r<2)):=by
   show ((r:Int) == 1)=decide (r<2)
   rw [Bool.eq_iff_iff];simp;omega
  go_enter Tryz.func180,Tryz.ntmps180
  go_wp2_with fail;go_ret;exact ⟨by rw [<- HD.out];rfl,rfl⟩
theorem cnode_spec (b r:Nat) (K:KV) (T:List DM) (q:KPtr) (p:PlaceV) (w:World) (h:KerMem w b K T q) (hr:r<=4294967295) (hp:K.A.list[r]?=some p) (hpt:p.taken=true) :
  Calls Tryz.prog 181 #[.pointer (some ⟨b,0,none⟩),.int .u32 r] w fun e w'=>e=.returned (.agg #[.int .i64 p.var,.int .u32 p.lo,.int .u32 p.hi])/\Upd [] w w':=by
 have HM:=Lib.hid h;have HP:=Lib.hid (And.intro hp hpt);clear h hp hpt
 go_enter Tryz.func181,Tryz.ntmps181
 go_wp2_with fail;refine (nodeof_yes b r K T q p _ (HM.out.upd ((Upd.refl [] w).alloc _) (by simp)) hr HP.out.1 HP.out.2).mono ?_;rintro e w1 ⟨rfl,hu⟩;have hbx:w1.heap[w.heap.size]?=some (.cells #[.int .i64 0,.int .u32 0,.int .u32 0] 116 (0,0)):=(hu.block w.heap.size (by simp) (by simp)).trans (heap_alloc_new w _);have hb2:=heap_alloc_old w1 (.cells #[.int .i64 p.var,.int .u32 p.lo,.int .u32 p.hi] 116 (0,0)) (heap_lt hbx);have hbx2:=hb2.trans hbx;have hn:=heap_alloc_new w1 (.cells #[.int .i64 p.var,.int .u32 p.lo,.int .u32 p.hi] 116 (0,0));have y0:=cell_at (j:=0) hn rfl;have y1:=cell_at (j:=1) hn rfl;have y2:=cell_at (j:=2) hn rfl;have b0:=cell_at (j:=0) hbx rfl;have b1:=cell_at (j:=1) hbx rfl;have b2:=cell_at (j:=2) hbx rfl;have f0:=frozen_at 0 hbx;have f1:=frozen_at 1 hbx;have f2:=frozen_at 2 hbx;have hbw:=heap_lt hbx;have HX:=Lib.hid hbx;have HU:Hid (Upd [] w w1):=((Upd.refl [] w).alloc _).trans (hu.mono (by simp));clear hu hbx hb2 hbx2 hn;go_wp2_with fail;obtain ⟨r0,r1,r2⟩:=box3 HX.out (.int .i64 p.var) (.int .u32 p.lo) (.int .u32 p.hi) (.cells #[.int .i64 p.var,.int .u32 p.lo,.int .u32 p.hi] 116 (0,0));refine bodyPost_ret (v:=.agg #[.int .i64 p.var,.int .u32 p.lo,.int .u32 p.hi]) (by simp [results,Tryz.results181,go_sem,r0,r1,r2]) rfl ⟨rfl,?_⟩;exact (((HU.out.setCell (.inr (Nat.le_refl _)) _).setCell (.inr (Nat.le_refl _)) _).setCell (.inr (Nat.le_refl _)) _).alloc _
def supStep (s:Int) (n:Nat):Int:=bits BinOp.or IntKind.u64 s (IntKind.u64.wrap (2 ^ n))
theorem supF_spec (sb:Nat) (s:Int) (n lo hi:Nat) (w:World) (hn:n<64) (hb:w.heap[sb]?=some (.cells #[.int .u64 s] 90 (0,0))) :
  Calls Tryz.prog 187 #[.agg #[.int .i64 n,.int .u32 lo,.int .u32 hi],.pointer (some ⟨sb,0,none⟩)] w fun e w'=>e=.returned (.tuple #[])/\w'.heap[sb]?=some (.cells #[.int .u64 (supStep s n)] 90 (0,0))/\Upd [sb] w w':=by
 have hlt:=heap_lt hb;have c0:=cell_at (j:=0) hb rfl;have f0:=frozen_at 0 hb
 have hn64:(n:Int)<64:=by omega
 have hbx:=heap_alloc_new w (.cells #[.int .i64 (n:Int),.int .u32 lo,.int .u32 hi] 116 (0,0));have x0:=cell_at (j:=0) hbx rfl;have e1:(w.alloc (.cells #[.int .i64 (n:Int),.int .u32 lo,.int .u32 hi] 116 (0,0))).heap[sb]?=_:=(heap_alloc_old _ _ hlt).trans hb;have c1:=cell_at (j:=0) e1 rfl;have f1:=frozen_at 0 e1;have HB:=Lib.hid (And.intro hb e1);clear hb hbx e1
 go_enter Tryz.func187,Tryz.ntmps187
 go_wp2_with fail
 go_region
 go_wp2_with fail;go_end0;refine ⟨rfl,?_,?_⟩
 ·have e:=heap_set_eq (j:=0) HB.out.1 (.int .u64 (supStep s n))
  exact (heap_alloc_old _ _ (heap_lt e)).trans e
 ·exact (((Upd.refl [sb] w).setCell (p:=⟨sb,0,none⟩) (.inl (by simp)) _).alloc _).drew
theorem refKeyed:Keyed Tryz.prog 77:=int_keyed Tryz.underlying77
theorem zeroInt (w:World):(zeroValue 3).run Tryz.prog w=.ok (.int .i64 0) w:=by kernel_rfl
def CbOk (fl:Nat) (caps:Array Value) (sb:Nat) (ty:TypeId) (enc:Int->Value) (step:Int->Nat->Int):Prop :=
 ∀ (w:World) (s:Int) (n lo hi:Nat),n<64->w.heap[sb]?=some (.cells #[enc s] ty (0,0))->Calls Tryz.prog fl (#[.agg #[.int .i64 n,.int .u32 lo,.int .u32 hi]]++caps) w fun e w' =>
  e=.returned (.tuple #[])/\w'.heap[sb]?=some (.cells #[enc (step s n)] ty (0,0))/\Upd [sb] w w'
theorem cb_support (sb:Nat):CbOk 187 #[.pointer (some ⟨sb,0,none⟩)] sb 90 (fun s=>.int .u64 s) supStep :=
 fun w s n lo hi hn hb=>supF_spec sb s n lo hi w hn hb
structure SeenOk (V:List Nat) (D:DM):Prop where
 im:IsMap D
 has:∀ r:Nat,r<=4294967295->(Maps.has D (.int .u32 r)=true↔r∈V)
 at_:∀ r:Nat,r<=4294967295->Maps.has D (.int .u32 r)=true->∀ z,D.atKey (.int .u32 r) z=.lit (.int .i64 1)
 dom:∀ k,Maps.has D k=true->∃ r:Nat,k=.int .u32 r/\r<1048576
theorem SeenOk.nil:SeenOk [] (.map []):=⟨isMap_empty,fun r _=>by simp [Maps.has],fun r _ h=>by simp [Maps.has] at h,fun k h=>by simp [Maps.has] at h⟩
theorem SeenOk.put {V:List Nat} {D:DM} {r:Nat} (h:SeenOk V D) (hr:r<1048576):SeenOk (V++[r]) (D.put (.int .u32 r) (.lit (.int .i64 1))):=by
 have hl:WideAt.IsKeyLit (.int .u32 (r:Int)):=trivial
 have inj:∀ x:Nat,x≠r->(Lit.int .u32 (x:Int))≠.int .u32 (r:Int):=fun x hx e=>hx (by simp at e;omega)
 refine ⟨h.im.put _ _,fun x hx=>?_,fun x hx hh z=>?_,fun k hk=>?_⟩
 ·by_cases e:x=r
  ·subst e;simp [has_put_same h.im hl]
  ·rw [has_put_other (inj x e),h.has x hx];simp [e]
 ·by_cases e:x=r
  ·subst e;exact atKey_put_same h.im hl _ z
  ·rw [has_put_other (inj x e)] at hh
   rw [atKey_put_other (inj x e)];exact h.at_ x hx hh z
 ·by_cases e:k=.int .u32 (r:Int)
  ·exact ⟨r,e,hr⟩
  ·rw [has_put_other e] at hk;exact h.dom k hk
theorem seen_size {V:List Nat} {D:DM} (h:SeenOk V D) (hc:Maps.Canon D) (ht:Tidy D):Maps.size D<maxLen:=by
 have:=size_le_keys hc (ks:=(List.range 1048576).map fun (r:Nat)=>Lit.int .u32 (r:Int)) (fun k hk=>by
  obtain ⟨r,rfl,hr⟩:=h.dom k hk
  exact List.mem_map.2 ⟨r,List.mem_range.2 hr,rfl⟩) ht
 simp only [List.length_map,List.length_range] at this
 unfold maxLen;omega
structure WalkM (w:World) (b ck ckk cf cw mb sb fl:Nat) (caps:Array Value) (ty:TypeId) (enc:Int->Value) (K:KV) (T:List DM) (q:KPtr) (D:DM) (s:Int):Prop where
 ker:KerIn w b K T q
 bk:w.heap[ck]?=some (.cells #[.map (some mb)] 114 (0,0))
 bkk:w.heap[ckk]?=some (.cells #[.pointer (some ⟨b,0,none⟩)] 40 (0,0))
 bf:w.heap[cf]?=some (.cells #[.func (Fn.func fl) #[] caps] 203 (0,0))
 bw:w.heap[cw]?=some (.cells #[.func (Fn.func 193) #[] #[.pointer (some ⟨ck,0,none⟩),.pointer (some ⟨ckk,0,none⟩),.pointer (some ⟨cf,0,none⟩),.pointer (some ⟨cw,0,none⟩)]] 150 (0,0))
 bs:w.heap[sb]?=some (.cells #[enc s] ty (0,0))
 map:w.ownsMap Tryz.prog 77 (plainElem Tryz.prog 3) mb (Maps.size D) D
 dq:∀ k,k∈q.all b->k≠ck/\k≠ckk/\k≠cf/\k≠cw/\k≠mb/\k≠sb
 dm:mb≠ck/\mb≠ckk/\mb≠cf/\mb≠cw/\mb≠sb
 ds:sb≠ck/\sb≠ckk/\sb≠cf/\sb≠cw
theorem WalkM.keep {w w':World} {b ck ckk cf cw mb sb fl:Nat} {caps:Array Value} {ty:TypeId} {enc:Int->Value} {K:KV} {T:List DM} {q:KPtr} {D:DM} {s:Int} (h:WalkM w b ck ckk cf cw mb sb fl caps ty enc K T q D s) (u:Upd [] w w') :
  WalkM w' b ck ckk cf cw mb sb fl caps ty enc K T q D s:=by
 have e:∀ {k:Nat} {o:Obj},w.heap[k]?=some o->w'.heap[k]?=some o:=fun {k o} hk=>by rw [u.block k (heap_lt hk) (by simp)];exact hk
 exact ⟨h.ker.upd u (by simp),e h.bk,e h.bkk,e h.bf,e h.bw,e h.bs,own_keep h.map (u.block _ h.map.lt (by simp)),h.dq,h.dm,h.ds⟩
theorem WalkM.state {w w':World} {b ck ckk cf cw mb sb fl:Nat} {caps:Array Value} {ty:TypeId} {enc:Int->Value} {K:KV} {T:List DM} {q:KPtr} {D:DM} {s s':Int} (h:WalkM w b ck ckk cf cw mb sb fl caps ty enc K T q D s) (u:Upd [sb] w w') (hs:w'.heap[sb]?=some (.cells #[enc s'] ty (0,0))) :
  WalkM w' b ck ckk cf cw mb sb fl caps ty enc K T q D s':=by
 have e:∀ {k:Nat} {o:Obj},sb≠k->w.heap[k]?=some o->w'.heap[k]?=some o:=fun {k o} hn hk=>by rw [u.block k (heap_lt hk) (by simp;exact Ne.symm hn)];exact hk
 exact ⟨h.ker.upd u (fun k hk hm=>by simp at hm;exact (h.dq k hk).2.2.2.2.2 hm),e h.ds.1 h.bk,e h.ds.2.1 h.bkk,e h.ds.2.2.1 h.bf,e h.ds.2.2.2 h.bw,hs,own_keep h.map (u.block _ h.map.lt (by simp;exact h.dm.2.2.2.2)),h.dq,h.dm,h.ds⟩
theorem WalkM.seen {w w':World} {b ck ckk cf cw mb sb fl:Nat} {caps:Array Value} {ty:TypeId} {enc:Int->Value} {K:KV} {T:List DM} {q:KPtr} {D D':DM} {s:Int} (h:WalkM w b ck ckk cf cw mb sb fl caps ty enc K T q D s) (u:Upd [mb] w w') (hm:w'.ownsMap Tryz.prog 77 (plainElem Tryz.prog 3) mb (Maps.size D') D') :
  WalkM w' b ck ckk cf cw mb sb fl caps ty enc K T q D' s:=by
 have e:∀ {k:Nat} {o:Obj},mb≠k->w.heap[k]?=some o->w'.heap[k]?=some o:=fun {k o} hn hk=>by rw [u.block k (heap_lt hk) (by simp;exact Ne.symm hn)];exact hk
 exact ⟨h.ker.upd u (fun k hk hm=>by simp at hm;exact (h.dq k hk).2.2.2.2.1 hm),e h.dm.1 h.bk,e h.dm.2.1 h.bkk,e h.dm.2.2.1 h.bf,e h.dm.2.2.2.1 h.bw,e h.dm.2.2.2.2 h.bs,hm,h.dq,h.dm,h.ds⟩
inductive KV.Under (K:KV) (r:Nat):Nat->Prop
 | refl (h:2<=r):K.Under r r
 | lo {x:Nat} {p:PlaceV} (h:K.Under r x) (hp:K.A.list[x]?=some p) (h2:2<=p.lo):K.Under r p.lo
 | hi {x:Nat} {p:PlaceV} (h:K.Under r x) (hp:K.A.list[x]?=some p) (h2:2<=p.hi):K.Under r p.hi
theorem KV.Under.trans {K:KV} {r s x:Nat} (h:K.Under r s) (k:K.Under s x):K.Under r x:=by
 induction k with
 | refl _=>exact h
 | lo _ hp h2 ih=>exact .lo ih hp h2
 | hi _ hp h2 ih=>exact .hi ih hp h2
structure WalkN (K:KV) (V:List Nat) (r:Nat) (N:List Nat):Prop where
 nd:(V++N).Nodup
 has:2<=r->r∈V++N
 two:∀ x,x∈N->2<=x/\K.A.tk x=true
 under:∀ x,x∈N->K.Under r x
 kids:∀ (x:Nat) (p:PlaceV),x∈N->K.A.list[x]?=some p->(p.lo<2\/p.lo∈V++N)/\(p.hi<2\/p.hi∈V++N)
theorem WalkN.none {K:KV} {V:List Nat} {r:Nat} (hv:V.Nodup) (h:r < 2∨r∈V):WalkN K V r [] :=
  ⟨by simpa using hv, fun h2 => by rcases h with h | h; · omega
                                   · simpa using h,by simp,by simp,by simp⟩
theorem WalkN.node {K:KV} {V N0 N1:List Nat} {r:Nat} {p:PlaceV} (h2:2<=r) (ht:K.A.tk r=true) (hp:K.A.list[r]?=some p) (W0:WalkN K (V++[r]) p.lo N0) (W1:WalkN K (V++[r]++N0) p.hi N1) :
  WalkN K V r (r::(N0++N1)):=by
 have e:V++r::(N0++N1)=V++[r]++N0++N1:=by simp
 have in0:∀ x,x∈V++[r]++N0->x∈V++r::(N0++N1):=fun x hx=>by rw [e];exact List.mem_append.2 (.inl hx)
 have in1:∀ x,x∈V++[r]++N0++N1->x∈V++r::(N0++N1):=fun x hx=>by rw [e];exact hx
 refine ⟨by rw [e];exact W1.nd,fun _=>by simp,fun x hx=>?_,fun x hx=>?_,fun x c hx hc=>?_⟩
 ·rcases List.mem_cons.1 hx with rfl | hx
  ·exact ⟨h2,ht⟩
  ·rcases List.mem_append.1 hx with hx | hx
   ·exact W0.two x hx
   ·exact W1.two x hx
 ·have ulo:2<=p.lo->K.Under r p.lo:=fun h=>.lo (.refl h2) hp h
  have uhi:2<=p.hi->K.Under r p.hi:=fun h=>.hi (.refl h2) hp h
  have start:∀ {s x:Nat},K.Under s x->2<=s:=by
   intro s x h
   induction h with
   | refl h=>exact h
   | lo _ _ _ ih=>exact ih
   | hi _ _ _ ih=>exact ih
  rcases List.mem_cons.1 hx with rfl | hx
  ·exact .refl h2
  ·rcases List.mem_append.1 hx with hx | hx
   ·have:=W0.under x hx
    exact (ulo (start this)).trans this
   ·have:=W1.under x hx
    exact (uhi (start this)).trans this
 ·rcases List.mem_cons.1 hx with rfl | hx
  ·rw [hp] at hc;cases hc
   refine ⟨?_,?_⟩
   ·by_cases h:p.lo<2
    ·exact .inl h
    ·exact .inr (in0 _ (W0.has (by omega)))
   ·by_cases h:p.hi<2
    ·exact .inl h
    ·exact .inr (in1 _ (W1.has (by omega)))
  ·rcases List.mem_append.1 hx with hx | hx
   ·have:=W0.kids x c hx hc
    exact ⟨this.1.imp_right (in0 _),this.2.imp_right (in0 _)⟩
   ·have:=W1.kids x c hx hc
    exact ⟨this.1.imp_right (in1 _),this.2.imp_right (in1 _)⟩
def KV.vof (K:KV) (x:Nat):Nat:=match K.A.list[x]? with | some p=>p.var.toNat | none=>0
structure WalkQ (b ck ckk cf cw mb sb fl:Nat) (caps:Array Value) (ty:TypeId) (enc:Int->Value) (step:Int->Nat->Int) (K:KV) (T:List DM) (q:KPtr) (V:List Nat) (r:Nat) (s:Int) (w w':World):Prop where
 ex:∃ (N:List Nat) (D':DM),WalkN K V r N/\SeenOk (V++N) D'/\WalkM w' b ck ckk cf cw mb sb fl caps ty enc K T q D' (N.foldl (fun s x=>step s (K.vof x)) s)/\Upd [mb,sb] w w'
def WalkHyp (b ck ckk cf cw mb sb fl:Nat) (caps:Array Value) (ty:TypeId) (enc:Int->Value) (step:Int->Nat->Int) (K:KV) (T:List DM) (q:KPtr) (d:Nat):Prop :=
 ∀ (r:Nat) (V:List Nat) (D:DM) (s:Int) (w:World),WalkM w b ck ckk cf cw mb sb fl caps ty enc K T q D s->SeenOk V D->V.Nodup->K.A.tk r=true->d<=K.dep r ->
  Calls Tryz.prog 193 #[.int .u32 r,.pointer (some ⟨ck,0,none⟩),.pointer (some ⟨ckk,0,none⟩),.pointer (some ⟨cf,0,none⟩),.pointer (some ⟨cw,0,none⟩)] w fun e w' =>
   e=.returned (.tuple #[])/\WalkQ b ck ckk cf cw mb sb fl caps ty enc step K T q V r s w w'
theorem walk_const (b ck ckk cf cw mb sb fl:Nat) (caps:Array Value) (ty:TypeId) (enc:Int->Value) (step:Int->Nat->Int) (K:KV) (T:List DM) (q:KPtr) (r:Nat) (V:List Nat) (D:DM) (s:Int) (w:World)
  (hM:WalkM w b ck ckk cf cw mb sb fl caps ty enc K T q D s) (hS:SeenOk V D) (hv:V.Nodup) (h2:r<2) :
  Calls Tryz.prog 193 #[.int .u32 r,.pointer (some ⟨ck,0,none⟩),.pointer (some ⟨ckk,0,none⟩),.pointer (some ⟨cf,0,none⟩),.pointer (some ⟨cw,0,none⟩)] w fun e w' =>
   e=.returned (.tuple #[])/\WalkQ b ck ckk cf cw mb sb fl caps ty enc step K T q V r s w w':=by
 have HE:Hid (WalkQ b ck ckk cf cw mb sb fl caps ty enc step K T q V r s w w):=⟨[],D,WalkN.none hv (.inl h2),by simpa using hS,hM,Upd.refl _ _⟩
 have HD:Hid (decide (r<2)=true):=by show decide (r<2)=true;simpa using h2
 clear hM hS hv
 go_enter Tryz.func193,Tryz.ntmps193
 go_wp2_with fail;refine (cconst_spec r w).mono ?_;rintro e w1 ⟨rfl,rfl⟩;rw [HD.out];go_wp2_with fail;refine bodyPost_ret (results_none rfl _ _ _) rfl ⟨rfl,HE.out⟩
theorem walk_seen (b ck ckk cf cw mb sb fl:Nat) (caps:Array Value) (ty:TypeId) (enc:Int->Value) (step:Int->Nat->Int) (K:KV) (T:List DM) (q:KPtr) (r:Nat) (V:List Nat) (D:DM) (s:Int) (w:World)
  (hM:WalkM w b ck ckk cf cw mb sb fl caps ty enc K T q D s) (hS:SeenOk V D) (hv:V.Nodup) (h2:2<=r) (hr:r<=4294967295) (hin:r∈V) :
  Calls Tryz.prog 193 #[.int .u32 r,.pointer (some ⟨ck,0,none⟩),.pointer (some ⟨ckk,0,none⟩),.pointer (some ⟨cf,0,none⟩),.pointer (some ⟨cw,0,none⟩)] w fun e w' =>
   e=.returned (.tuple #[])/\WalkQ b ck ckk cf cw mb sb fl caps ty enc step K T q V r s w w':=by
 have HE:Hid (WalkQ b ck ckk cf cw mb sb fl caps ty enc step K T q V r s w w):=⟨[],D,WalkN.none hv (.inr hin),by simpa using hS,hM,Upd.refl _ _⟩
 have HD:Hid (decide (r<2)=false):=by show decide (r<2)=false;simp;omega
 have ck0:=cell_at (j:=0) hM.bk rfl;obtain ⟨c,hrun,hat,_⟩:=hM.map.lookup_int refKeyed Tryz.underlying114 Tryz.underlying3 (zeroInt w) (keyOf_int_mk Tryz.underlying77 (wfR hr))
 have hc:c=1:=by
  have:=hS.at_ r hr ((hS.has r hr).2 hin) (.lit (.int .i64 0));rw [this] at hat
  simpa using hat.symm
 subst hc;clear hM hS hv hat
 go_enter Tryz.func193,Tryz.ntmps193
 go_wp2_with fail;refine (cconst_spec r w).mono ?_;rintro e w1 ⟨rfl,rfl⟩;rw [HD.out];go_wp2_with fail;refine bodyPost_ret (results_none rfl _ _ _) rfl ⟨rfl,HE.out⟩
theorem walk_new (b ck ckk cf cw mb sb fl:Nat) (caps:Array Value) (ty:TypeId) (enc:Int->Value) (step:Int->Nat->Int) (K:KV) (T:List DM) (q:KPtr) (r:Nat) (V:List Nat) (D:DM) (s:Int) (w:World) (hen:Enters fl) (_hen2:Enters 193)
  (hCb:CbOk fl caps sb ty enc step) (hM:WalkM w b ck ckk cf cw mb sb fl caps ty enc K T q D s) (hS:SeenOk V D) (hv:V.Nodup) (h2:2<=r) (ht:K.A.tk r=true) (hnin:r∉V) (IH:WalkHyp b ck ckk cf cw mb sb fl caps ty enc step K T q (K.dep r+1)) :
  Calls Tryz.prog 193 #[.int .u32 r,.pointer (some ⟨ck,0,none⟩),.pointer (some ⟨ckk,0,none⟩),.pointer (some ⟨cf,0,none⟩),.pointer (some ⟨cw,0,none⟩)] w fun e w' =>
   e=.returned (.tuple #[])/\WalkQ b ck ckk cf cw mb sb fl caps ty enc step K T q V r s w w':=by
 have hok:=hM.ker.ok;have hrl:=hok.ref_lt ht
 have hr:r<=4294967295:=by omega
 obtain ⟨p,v,hp,hpt,hpv,hvl,tlo,thi,hdep⟩:=hok.wf.node_at h2 ht;have hvs:=hok.wf.vs;have hb:=hok.ord.below hok.wf h2 hp hpt
 have HD:Hid (decide (r<2)=false):=by show decide (r<2)=false;simp;omega
 have ck0:=cell_at (j:=0) hM.bk rfl;obtain ⟨c,hrun,hat,_⟩:=hM.map.lookup_int refKeyed Tryz.underlying114 Tryz.underlying3 (zeroInt w) (keyOf_int_mk Tryz.underlying77 (wfR hr))
 have hno:Maps.has D (.int .u32 r)=false:=by
  cases e:Maps.has D (.int .u32 r) with
  | false=>rfl
  | true=>exact absurd ((hS.has r hr).1 e) hnin
 have hc:c=0:=by
  rw [atKey_of_not_has hno] at hat
  simpa using hat.symm
 subst hc;have hsz:=seen_size hS (hM.map.canon refKeyed) (hM.map.tidy refKeyed);obtain ⟨w9,hrun9,hown,hturn⟩:=hM.map.store refKeyed Tryz.underlying114 hsz (keyOf_int_mk Tryz.underlying77 (wfR hr)) (plainElem_int (H:=Unit) Tryz.underlying3 (wfI (n:=1) (by omega) (by omega)));have hu9:=upd_turned hturn;have hM9:=hM.seen hu9 (own_tight hown);have H9:=Lib.hid (And.intro hM9 (And.intro hu9 (hS.put hrl)));have HP:=Lib.hid (And.intro hp (And.intro hpt (And.intro hpv (And.intro hvl (And.intro tlo (And.intro thi (And.intro hb (And.intro hok hv))))))));have HIH:=Lib.hid IH;have HCB:=Lib.hid hCb;have HEN:Hid (∀ (args:Array Value) (w:World),(callFunc fl args).run Tryz.prog w=.ok (.enter fl args) w):=hen;have kk9:=cell_at (j:=0) hM9.bkk rfl;clear hM hS hat hown hturn hu9 hM9 hp hpt hpv hvl tlo thi hb hok hv IH hCb hen hno hsz hdep
 go_enter Tryz.func193,Tryz.ntmps193
 go_wp2_with fail;refine (cconst_spec r w).mono ?_;rintro e w1 ⟨rfl,rfl⟩;rw [HD.out];go_wp2_with fail;refine (cnode_spec b r K T q p w9 H9.out.1.ker.mem hr HP.out.1 HP.out.2.1).mono ?_;rintro e w2 ⟨rfl,hu2⟩;rw [HP.out.2.2.1];have HB2:=Lib.hid ((H9.out.1.keep hu2).keep ((Upd.refl [] w2).alloc (.cells #[.int .i64 (v:Int),.int .u32 p.lo,.int .u32 p.hi] 116 (0,0))));have hbx:=heap_alloc_new w2 (.cells #[.int .i64 (v:Int),.int .u32 p.lo,.int .u32 p.hi] 116 (0,0));have hmb:=(H9.out.1.keep hu2).map.lt;have hsb:=heap_lt (H9.out.1.keep hu2).bs;have HU2:=Lib.hid (hu2.alloc (.cells #[.int .i64 (v:Int),.int .u32 p.lo,.int .u32 p.hi] 116 (0,0)));have x0:=cell_at (j:=0) hbx rfl;have x1:=cell_at (j:=1) hbx rfl;have x2:=cell_at (j:=2) hbx rfl;have cf2:=cell_at (j:=0) HB2.out.bf rfl;have HBX:=Lib.hid hbx;have hen:=HEN.out;clear hu2 hbx;go_wp2_with fail;refine (HCB.out _ s v p.lo p.hi (by have:=HP.out.2.2.2.1;omega) HB2.out.bs).mono ?_;rintro e w3 ⟨rfl,hs3,hu3⟩;have HM3:=Lib.hid (HB2.out.state hu3 hs3);have hb3:=(hu3.block _ (heap_lt HBX.out) (by simp;omega)).trans HBX.out;have HBX3:=Lib.hid hb3;have HU3:=Lib.hid (HU2.out.mono (by simp) |>.trans (hu3.mono (by simp)):Upd [mb,sb] w9 w3);have z1:=cell_at (j:=1) hb3 rfl;have cw3:=cell_at (j:=0) HM3.out.bw rfl
 have HND:Hid ((V++[r]).Nodup):=by
  show (V++[r]).Nodup
  rw [List.nodup_append];refine ⟨HP.out.2.2.2.2.2.2.2.2,by simp,fun a ha c hc=>?_⟩
  simp at hc;subst hc
  rintro rfl;exact hnin ha
 have HC1:=Lib.hid (HIH.out p.lo (V++[r]) _ _ w3 HM3.out H9.out.2.2 HND.out HP.out.2.2.2.2.1 HP.out.2.2.2.2.2.2.1.1);clear hu3 hs3 hb3 x0 x1 x2 cf2 hen ck0 hrun hrun9 kk9;go_wp2_with fail;refine HC1.out.mono ?_;rintro e w4 ⟨rfl,hQ⟩;obtain ⟨N0,D4,hN0,hS4,hM4,hu4⟩:=hQ.ex;have hb4:=(hu4.block _ (heap_lt HBX3.out) (by simp;omega)).trans HBX3.out;have z2:=cell_at (j:=2) hb4 rfl;have cw4:=cell_at (j:=0) hM4.bw rfl;have HC2:=Lib.hid (HIH.out p.hi (V++[r]++N0) D4 _ w4 hM4 hS4 hN0.nd HP.out.2.2.2.2.2.1 HP.out.2.2.2.2.2.2.1.2);have H4:=Lib.hid (And.intro hN0 (HU3.out.trans hu4));clear hQ hN0 hS4 hM4 hu4 hb4 z1 cw3 HC1;go_wp2_with fail;refine HC2.out.mono ?_;rintro e w5 ⟨rfl,hQ⟩;obtain ⟨N1,D5,hN1,hS5,hM5,hu5⟩:=hQ.ex
 have HE:Hid (WalkQ b ck ckk cf cw mb sb fl caps ty enc step K T q V r s w1 w5):=by
  have hvof:K.vof r=v:=by
   simp only [KV.vof,HP.out.1,HP.out.2.2.1,Int.toNat_natCast]
  refine ⟨r::(N0++N1),D5,WalkN.node h2 (ArenaV.tk_iff.2 ⟨p,HP.out.1,HP.out.2.1⟩) HP.out.1 H4.out.1 hN1,?_,?_,?_⟩
  ·have e:V++r::(N0++N1)=V++[r]++N0++N1:=by simp
   rw [e];exact hS5
  ·have e:(r::(N0++N1)).foldl (fun s x=>step s (K.vof x)) s=N1.foldl (fun s x=>step s (K.vof x)) (N0.foldl (fun s x=>step s (K.vof x)) (step s v)):=by
    rw [List.foldl_cons,List.foldl_append,hvof]
   rw [e];exact hM5
  ·exact (H9.out.2.1.mono (by simp):Upd [mb,sb] w1 w9).trans (H4.out.2.trans hu5)
 clear hQ hN1 hS5 hM5 hu5 z2 cw4 HC2;go_wp2_with fail;go_end0;exact ⟨rfl,HE.out⟩
theorem walk_spec (b ck ckk cf cw mb sb fl:Nat) (caps:Array Value) (ty:TypeId) (enc:Int->Value) (step:Int->Nat->Int) (K:KV) (T:List DM) (q:KPtr) (hen:Enters fl) (hen2:Enters 193) (hCb:CbOk fl caps sb ty enc step):∀ (n d:Nat),K.vars+1-d<=n->WalkHyp b ck ckk cf cw mb sb fl caps ty enc step K T q d
 | n,d,hn=>by
  intro r V D s w hM hS hv ht hd
  have hok:=hM.ker.ok;have hr:=hok.ref_lt ht
  by_cases h2:2<=r
  ·have hl:=hok.wf.dep_lt hok.ord h2 ht
   by_cases hin:r∈V
   ·exact walk_seen b ck ckk cf cw mb sb fl caps ty enc step K T q r V D s w hM hS hv h2 (by omega) hin
   ·match n,hn with
    | 0,hn=>omega
    | n+1,hn =>
     exact walk_new b ck ckk cf cw mb sb fl caps ty enc step K T q r V D s w hen hen2 hCb hM hS hv h2 ht hin (walk_spec b ck ckk cf cw mb sb fl caps ty enc step K T q hen hen2 hCb n (K.dep r+1) (by omega))
  ·exact walk_const b ck ckk cf cw mb sb fl caps ty enc step K T q r V D s w hM hS hv (by omega)
theorem enters_walk:Enters 193:=fun args w=>by simp [go_sem]
theorem enters_sup:Enters 187:=fun args w=>by simp [go_sem]
theorem own_emptyR {W:World} {mb:Nat} (h:W.heap[mb]?=some (.map #[] 0)):W.ownsMap Tryz.prog 77 (plainElem (H:=Unit) Tryz.prog 3) mb 0 (.map []):=by
 obtain ⟨es,clock,q1,q2,q3,q4⟩:=World.ownsMap_made W Tryz.prog 77 (plainElem (H:=Unit) Tryz.prog 3);rw [heap_alloc_new] at q1;cases q1;exact ⟨#[],0,h,q2,Nat.zero_le _,rfl⟩
inductive WalkL (K:KV):List Nat->List Nat->List Nat->Prop
 | nil (V:List Nat):WalkL K V [] []
 | cons {V N N':List Nat} {r:Nat} {rs:List Nat} (h:WalkN K V r N) (t:WalkL K (V++N) rs N'):WalkL K V (r::rs) (N++N')
theorem WalkL.snoc {K:KV} {V rs N:List Nat} (h:WalkL K V rs N):∀ {r:Nat} {N1:List Nat},WalkN K (V++N) r N1->WalkL K V (rs++[r]) (N++N1):=by
 induction h with
 | nil V=>intro r N1 h1;have:=WalkL.cons (by simpa using h1) (WalkL.nil (K:=K) (V++N1));simpa using this
 | cons h t ih =>
  intro r N1 h1
  have:=ih (by simpa [List.append_assoc] using h1);have:=WalkL.cons h this
  simpa [List.append_assoc] using this
theorem WalkL.nodup {K:KV} {V rs N:List Nat} (h:WalkL K V rs N):V.Nodup->(V++N).Nodup:=by
 induction h with
 | nil V=>intro h;simpa using h
 | cons h t ih=>intro _;have:=ih h.nd;simpa [List.append_assoc] using this
structure BelowQ (b sb:Nat) (ty:TypeId) (enc:Int->Value) (step:Int->Nat->Int) (K:KV) (T:List DM) (q:KPtr) (rs:List Nat) (s:Int) (w w':World):Prop where
 ex:∃ N:List Nat,WalkL K [] rs N/\KerIn w' b K T q/\w'.heap[sb]?=some (.cells #[enc (N.foldl (fun s x=>step s (K.vof x)) s)] ty (0,0))/\Upd [sb] w w'
structure BelB (w:World) (b fl:Nat) (caps:Array Value) (W:World):Prop where
 b0:W.heap[w.heap.size]?=some (.cells #[.pointer (some ⟨b,0,none⟩)] 40 (0,0))
 b1:W.heap[w.heap.size+1]?=some (.cells #[.func (Fn.func fl) #[] caps] 203 (0,0))
 b2:W.heap[w.heap.size+1+1]?=some (.map #[] 0)
 b3:W.heap[w.heap.size+1+1+1]?=some (.cells #[.map (some (w.heap.size+1+1))] 114 (0,0))
 b4:W.heap[w.heap.size+1+1+1+1]?=some (.cells #[(.func (Fn.func 193) #[] #[.pointer (some ⟨w.heap.size+1+1+1,0,none⟩),.pointer (some ⟨w.heap.size,0,none⟩),.pointer (some ⟨w.heap.size+1,0,none⟩),.pointer (some ⟨w.heap.size+1+1+1+1,0,none⟩)])] 150 (0,0))
 up:Upd [] w W
theorem below_laid (w:World) (b fl:Nat) (caps:Array Value):((((((((w.alloc (.cells #[.pointer (some ⟨b,0,none⟩)] 40 (0,0)))).alloc (.cells #[.func (Fn.func fl) #[] caps] 203 (0,0)))).alloc (.map #[] 0))).alloc (.cells #[.map (some (w.heap.size+1+1))] 114 (0,0))).alloc (.cells #[.nilFunc] 150 (0,0))).heap[w.heap.size+1+1+1+1]?=some (.cells #[.nilFunc] 150 (0,0))/\BelB w b fl caps (((((((((w.alloc (.cells #[.pointer (some ⟨b,0,none⟩)] 40 (0,0)))).alloc (.cells #[.func (Fn.func fl) #[] caps] 203 (0,0)))).alloc (.map #[] 0))).alloc (.cells #[.map (some (w.heap.size+1+1))] 114 (0,0)))).alloc (.cells #[(.func (Fn.func 193) #[] #[.pointer (some ⟨w.heap.size+1+1+1,0,none⟩),.pointer (some ⟨w.heap.size,0,none⟩),.pointer (some ⟨w.heap.size+1,0,none⟩),.pointer (some ⟨w.heap.size+1+1+1+1,0,none⟩)])] 150 (0,0))):=by
 have z0:w.heap.size=w.heap.size:=by first | rfl | simp only [World.size_alloc]
 have n0:(w.alloc (.cells #[.pointer (some ⟨b,0,none⟩)] 40 (0,0))).heap[w.heap.size]?=some (.cells #[.pointer (some ⟨b,0,none⟩)] 40 (0,0)):=by
  have e:=heap_alloc_new w (.cells #[.pointer (some ⟨b,0,none⟩)] 40 (0,0))
  rw [z0] at e;exact e
 have n0_1:(((w.alloc (.cells #[.pointer (some ⟨b,0,none⟩)] 40 (0,0)))).alloc (.cells #[.func (Fn.func fl) #[] caps] 203 (0,0))).heap[w.heap.size]?=some (.cells #[.pointer (some ⟨b,0,none⟩)] 40 (0,0)):=(heap_alloc_old _ _ (heap_lt n0)).trans n0;have n0_2:(((((w.alloc (.cells #[.pointer (some ⟨b,0,none⟩)] 40 (0,0)))).alloc (.cells #[.func (Fn.func fl) #[] caps] 203 (0,0)))).alloc (.map #[] 0)).heap[w.heap.size]?=some (.cells #[.pointer (some ⟨b,0,none⟩)] 40 (0,0)):=(heap_alloc_old _ _ (heap_lt n0_1)).trans n0_1;have n0_3:(((((((w.alloc (.cells #[.pointer (some ⟨b,0,none⟩)] 40 (0,0)))).alloc (.cells #[.func (Fn.func fl) #[] caps] 203 (0,0)))).alloc (.map #[] 0))).alloc (.cells #[.map (some (w.heap.size+1+1))] 114 (0,0))).heap[w.heap.size]?=some (.cells #[.pointer (some ⟨b,0,none⟩)] 40 (0,0)):=(heap_alloc_old _ _ (heap_lt n0_2)).trans n0_2;have n0_4:(((((((((w.alloc (.cells #[.pointer (some ⟨b,0,none⟩)] 40 (0,0)))).alloc (.cells #[.func (Fn.func fl) #[] caps] 203 (0,0)))).alloc (.map #[] 0))).alloc (.cells #[.map (some (w.heap.size+1+1))] 114 (0,0)))).alloc (.cells #[(.func (Fn.func 193) #[] #[.pointer (some ⟨w.heap.size+1+1+1,0,none⟩),.pointer (some ⟨w.heap.size,0,none⟩),.pointer (some ⟨w.heap.size+1,0,none⟩),.pointer (some ⟨w.heap.size+1+1+1+1,0,none⟩)])] 150 (0,0))).heap[w.heap.size]?=some (.cells #[.pointer (some ⟨b,0,none⟩)] 40 (0,0)):=(heap_alloc_old _ _ (heap_lt n0_3)).trans n0_3
 have z1:(w.alloc (.cells #[.pointer (some ⟨b,0,none⟩)] 40 (0,0))).heap.size=w.heap.size+1:=by first | rfl | simp only [World.size_alloc]
 have n1:(((w.alloc (.cells #[.pointer (some ⟨b,0,none⟩)] 40 (0,0)))).alloc (.cells #[.func (Fn.func fl) #[] caps] 203 (0,0))).heap[w.heap.size+1]?=some (.cells #[.func (Fn.func fl) #[] caps] 203 (0,0)):=by
  have e:=heap_alloc_new (w.alloc (.cells #[.pointer (some ⟨b,0,none⟩)] 40 (0,0))) (.cells #[.func (Fn.func fl) #[] caps] 203 (0,0))
  rw [z1] at e;exact e
 have n1_2:(((((w.alloc (.cells #[.pointer (some ⟨b,0,none⟩)] 40 (0,0)))).alloc (.cells #[.func (Fn.func fl) #[] caps] 203 (0,0)))).alloc (.map #[] 0)).heap[w.heap.size+1]?=some (.cells #[.func (Fn.func fl) #[] caps] 203 (0,0)):=(heap_alloc_old _ _ (heap_lt n1)).trans n1;have n1_3:(((((((w.alloc (.cells #[.pointer (some ⟨b,0,none⟩)] 40 (0,0)))).alloc (.cells #[.func (Fn.func fl) #[] caps] 203 (0,0)))).alloc (.map #[] 0))).alloc (.cells #[.map (some (w.heap.size+1+1))] 114 (0,0))).heap[w.heap.size+1]?=some (.cells #[.func (Fn.func fl) #[] caps] 203 (0,0)):=(heap_alloc_old _ _ (heap_lt n1_2)).trans n1_2;have n1_4:(((((((((w.alloc (.cells #[.pointer (some ⟨b,0,none⟩)] 40 (0,0)))).alloc (.cells #[.func (Fn.func fl) #[] caps] 203 (0,0)))).alloc (.map #[] 0))).alloc (.cells #[.map (some (w.heap.size+1+1))] 114 (0,0)))).alloc (.cells #[(.func (Fn.func 193) #[] #[.pointer (some ⟨w.heap.size+1+1+1,0,none⟩),.pointer (some ⟨w.heap.size,0,none⟩),.pointer (some ⟨w.heap.size+1,0,none⟩),.pointer (some ⟨w.heap.size+1+1+1+1,0,none⟩)])] 150 (0,0))).heap[w.heap.size+1]?=some (.cells #[.func (Fn.func fl) #[] caps] 203 (0,0)):=(heap_alloc_old _ _ (heap_lt n1_3)).trans n1_3
 have z2:(((w.alloc (.cells #[.pointer (some ⟨b,0,none⟩)] 40 (0,0)))).alloc (.cells #[.func (Fn.func fl) #[] caps] 203 (0,0))).heap.size=w.heap.size+1+1:=by first | rfl | simp only [World.size_alloc]
 have n2:(((((w.alloc (.cells #[.pointer (some ⟨b,0,none⟩)] 40 (0,0)))).alloc (.cells #[.func (Fn.func fl) #[] caps] 203 (0,0)))).alloc (.map #[] 0)).heap[w.heap.size+1+1]?=some (.map #[] 0):=by
  have e:=heap_alloc_new (((w.alloc (.cells #[.pointer (some ⟨b,0,none⟩)] 40 (0,0)))).alloc (.cells #[.func (Fn.func fl) #[] caps] 203 (0,0))) (.map #[] 0)
  rw [z2] at e;exact e
 have n2_3:(((((((w.alloc (.cells #[.pointer (some ⟨b,0,none⟩)] 40 (0,0)))).alloc (.cells #[.func (Fn.func fl) #[] caps] 203 (0,0)))).alloc (.map #[] 0))).alloc (.cells #[.map (some (w.heap.size+1+1))] 114 (0,0))).heap[w.heap.size+1+1]?=some (.map #[] 0):=(heap_alloc_old _ _ (heap_lt n2)).trans n2;have n2_4:(((((((((w.alloc (.cells #[.pointer (some ⟨b,0,none⟩)] 40 (0,0)))).alloc (.cells #[.func (Fn.func fl) #[] caps] 203 (0,0)))).alloc (.map #[] 0))).alloc (.cells #[.map (some (w.heap.size+1+1))] 114 (0,0)))).alloc (.cells #[(.func (Fn.func 193) #[] #[.pointer (some ⟨w.heap.size+1+1+1,0,none⟩),.pointer (some ⟨w.heap.size,0,none⟩),.pointer (some ⟨w.heap.size+1,0,none⟩),.pointer (some ⟨w.heap.size+1+1+1+1,0,none⟩)])] 150 (0,0))).heap[w.heap.size+1+1]?=some (.map #[] 0):=(heap_alloc_old _ _ (heap_lt n2_3)).trans n2_3
 have z3:(((((w.alloc (.cells #[.pointer (some ⟨b,0,none⟩)] 40 (0,0)))).alloc (.cells #[.func (Fn.func fl) #[] caps] 203 (0,0)))).alloc (.map #[] 0)).heap.size=w.heap.size+1+1+1:=by first | rfl | simp only [World.size_alloc]
 have n3:(((((((w.alloc (.cells #[.pointer (some ⟨b,0,none⟩)] 40 (0,0)))).alloc (.cells #[.func (Fn.func fl) #[] caps] 203 (0,0)))).alloc (.map #[] 0))).alloc (.cells #[.map (some (w.heap.size+1+1))] 114 (0,0))).heap[w.heap.size+1+1+1]?=some (.cells #[.map (some (w.heap.size+1+1))] 114 (0,0)):=by
  have e:=heap_alloc_new (((((w.alloc (.cells #[.pointer (some ⟨b,0,none⟩)] 40 (0,0)))).alloc (.cells #[.func (Fn.func fl) #[] caps] 203 (0,0)))).alloc (.map #[] 0)) (.cells #[.map (some (w.heap.size+1+1))] 114 (0,0))
  rw [z3] at e;exact e
 have n3_4:(((((((((w.alloc (.cells #[.pointer (some ⟨b,0,none⟩)] 40 (0,0)))).alloc (.cells #[.func (Fn.func fl) #[] caps] 203 (0,0)))).alloc (.map #[] 0))).alloc (.cells #[.map (some (w.heap.size+1+1))] 114 (0,0)))).alloc (.cells #[(.func (Fn.func 193) #[] #[.pointer (some ⟨w.heap.size+1+1+1,0,none⟩),.pointer (some ⟨w.heap.size,0,none⟩),.pointer (some ⟨w.heap.size+1,0,none⟩),.pointer (some ⟨w.heap.size+1+1+1+1,0,none⟩)])] 150 (0,0))).heap[w.heap.size+1+1+1]?=some (.cells #[.map (some (w.heap.size+1+1))] 114 (0,0)):=(heap_alloc_old _ _ (heap_lt n3)).trans n3
 have z4:(((((((w.alloc (.cells #[.pointer (some ⟨b,0,none⟩)] 40 (0,0)))).alloc (.cells #[.func (Fn.func fl) #[] caps] 203 (0,0)))).alloc (.map #[] 0))).alloc (.cells #[.map (some (w.heap.size+1+1))] 114 (0,0))).heap.size=w.heap.size+1+1+1+1:=by first | rfl | simp only [World.size_alloc]
 have n4:(((((((((w.alloc (.cells #[.pointer (some ⟨b,0,none⟩)] 40 (0,0)))).alloc (.cells #[.func (Fn.func fl) #[] caps] 203 (0,0)))).alloc (.map #[] 0))).alloc (.cells #[.map (some (w.heap.size+1+1))] 114 (0,0)))).alloc (.cells #[(.func (Fn.func 193) #[] #[.pointer (some ⟨w.heap.size+1+1+1,0,none⟩),.pointer (some ⟨w.heap.size,0,none⟩),.pointer (some ⟨w.heap.size+1,0,none⟩),.pointer (some ⟨w.heap.size+1+1+1+1,0,none⟩)])] 150 (0,0))).heap[w.heap.size+1+1+1+1]?=some (.cells #[(.func (Fn.func 193) #[] #[.pointer (some ⟨w.heap.size+1+1+1,0,none⟩),.pointer (some ⟨w.heap.size,0,none⟩),.pointer (some ⟨w.heap.size+1,0,none⟩),.pointer (some ⟨w.heap.size+1+1+1+1,0,none⟩)])] 150 (0,0)):=by
  have e:=heap_alloc_new (((((((w.alloc (.cells #[.pointer (some ⟨b,0,none⟩)] 40 (0,0)))).alloc (.cells #[.func (Fn.func fl) #[] caps] 203 (0,0)))).alloc (.map #[] 0))).alloc (.cells #[.map (some (w.heap.size+1+1))] 114 (0,0))) (.cells #[(.func (Fn.func 193) #[] #[.pointer (some ⟨w.heap.size+1+1+1,0,none⟩),.pointer (some ⟨w.heap.size,0,none⟩),.pointer (some ⟨w.heap.size+1,0,none⟩),.pointer (some ⟨w.heap.size+1+1+1+1,0,none⟩)])] 150 (0,0))
  rw [z4] at e;exact e
 refine ⟨?_,n0_4,n1_4,n2_4,n3_4,n4,(((((Upd.refl [] w).alloc _).alloc _).alloc _).alloc _).alloc _⟩;have e:=heap_alloc_new (((((((w.alloc (.cells #[.pointer (some ⟨b,0,none⟩)] 40 (0,0)))).alloc (.cells #[.func (Fn.func fl) #[] caps] 203 (0,0)))).alloc (.map #[] 0))).alloc (.cells #[.map (some (w.heap.size+1+1))] 114 (0,0))) (.cells #[.nilFunc] 150 (0,0))
 rw [z4] at e;exact e
theorem BelB.walkM {w W:World} {b sb fl:Nat} {caps:Array Value} {ty:TypeId} {enc:Int->Value} {K:KV} {T:List DM} {q:KPtr} {s:Int} (B:BelB w b fl caps W) (hk:KerIn w b K T q) (hs:w.heap[sb]?=some (.cells #[enc s] ty (0,0))) (hd:sb∉q.all b) :
  WalkM W b (w.heap.size+1+1+1) (w.heap.size) (w.heap.size+1) (w.heap.size+1+1+1+1) (w.heap.size+1+1) sb fl caps ty enc K T q (.map []) s:=by
 have hlt:=hk.mem.lt;have hsb:=heap_lt hs;refine ⟨hk.upd B.up (by simp),B.b3,B.b0,B.b1,B.b4,(B.up.block _ hsb (by simp)).trans hs,own_emptyR B.b2,fun k hk=>?_,⟨by omega,by omega,by omega,by omega,by omega⟩,⟨by omega,by omega,by omega,by omega⟩⟩;have:=hlt k hk;exact ⟨by omega,by omega,by omega,by omega,by omega,fun e=>hd (e ▸ hk)⟩
theorem below_spec (b sb fl:Nat) (caps:Array Value) (ty:TypeId) (enc:Int->Value) (step:Int->Nat->Int) (K:KV) (T:List DM) (q:KPtr) (lv:Value) (rs:List Nat) (s:Int) (w:World) (hen:Enters fl) (hCb:CbOk fl caps sb ty enc step) (hk:KerIn w b K T q) (hs:w.heap[sb]?=some (.cells #[enc s] ty (0,0))) (hd:sb∉q.all b)
  (hrow:w.ownsRow 0 77 1 lv rs.length (flatRefs rs)) (hrs:lv.ownBlock≠some sb) (hl:∀ r,r∈rs->K.A.tk r=true) (hlen:rs.length<=1099511627776) :
  Calls Tryz.prog 125 #[.pointer (some ⟨b,0,none⟩),lv,.func (Fn.func fl) #[] caps] w fun e w'=>e=.returned (.tuple #[])/\BelowQ b sb ty enc step K T q rs s w w':=by
 have hmf:∀ (fn:Fn) (first cap:Array Value) (w:World),(Instr.makeFunc fn first cap).run Tryz.prog w=.ok (.func fn first cap) w:=fun _ _ _ _=>rfl
 have hmm:=@run_makeMap Tryz.prog
 have hsf:∀ (a:Addr) (m:Mode) (fn:Fn) (first cap:Array Value) (w:World),(store a (.func fn first cap) m).run Tryz.prog w=stored Tryz.prog w a (.func fn first cap) m:=fun a m fn first cap w=>run_store Tryz.prog w a _ m rfl
 obtain ⟨fa,fc,rfl,_⟩:=row_nil_len hrow;obtain ⟨hb4,hB⟩:=below_laid w b fl caps;have c4:=cell_at (j:=0) hb4 rfl;have f4:=frozen_at 0 hb4;have HWM:=Lib.hid (hB.walkM (enc:=enc) hk hs hd);have HUP:=Lib.hid hB.up;have HROW:=Lib.hid hrow;have HX:=Lib.hid (And.intro hk (And.intro hs (And.intro hd (And.intro hrs hl))));have HWS:=Lib.hid (walk_spec b (w.heap.size+1+1+1) (w.heap.size) (w.heap.size+1) (w.heap.size+1+1+1+1) (w.heap.size+1+1) sb fl caps ty enc step K T q hen enters_walk hCb (K.vars+1) 0 (by omega));clear hb4 hB hrow hk hs hd hrs hl hCb hen
 go_enter Tryz.func125,Tryz.ntmps125
 go_wp2_with fail
 go_loopg [14] rs.length (fun g s14 wr=>∃ (i:Nat) (N:List Nat) (D:DM),rs.length-i=g/\i<=rs.length/\s14=.int .i64 i/\WalkL K [] (rs.take i) N/\SeenOk N D/\WalkM wr b (w.heap.size+1+1+1) (w.heap.size) (w.heap.size+1) (w.heap.size+1+1+1+1) (w.heap.size+1+1) sb fl caps ty enc K T q D (N.foldl (fun s x=>step s (K.vof x)) s)/\Upd [w.heap.size+1+1,sb] (((((((((w.alloc (.cells #[.pointer (some ⟨b,0,none⟩)] 40 (0,0)))).alloc (.cells #[.func (Fn.func fl) #[] caps] 203 (0,0)))).alloc (.map #[] 0))).alloc (.cells #[.map (some (w.heap.size+1+1))] 114 (0,0)))).alloc (.cells #[(.func (Fn.func 193) #[] #[.pointer (some ⟨w.heap.size+1+1+1,0,none⟩),.pointer (some ⟨w.heap.size,0,none⟩),.pointer (some ⟨w.heap.size+1,0,none⟩),.pointer (some ⟨w.heap.size+1+1+1+1,0,none⟩)])] 150 (0,0))) wr)
 case atStart=>exact ⟨0,[],.map [],by omega,by omega,rfl,WalkL.nil _,SeenOk.nil,HWM.out,Upd.refl _ _⟩
 case round =>
  obtain ⟨i,N,D,rfl,hi,rfl,hL,hS,hM,hU⟩:=hrel
  have out:∀ k,k<w.heap.size->k≠sb->wr.heap[k]?=w.heap[k]?:=fun k hk hn=>by
   rw [hU.block k (by rw [World.size_alloc,World.size_alloc,World.size_alloc,World.size_alloc,World.size_alloc];omega) (by simp;omega),HUP.out.block k hk (by simp)]
  by_cases hlt:i<rs.length
  ·obtain ⟨f,hf⟩ : ∃ f,rs[i]?=some f:=⟨_,List.getElem?_eq_getElem hlt⟩
   obtain ⟨g,rfl⟩:=row_some HROW.out (by omega)
   have hrow:=row_keep HROW.out fun k hk=>out k (HROW.out.lt k hk).2 (fun e=>HX.out.2.2.2.1 (by rw [hk,e]))
   have cf:=row_cell hrow (j:=i) (u:=.int .u32 f) (by simp [flatRefs,hf]);have htk:=HX.out.2.2.2.2 f (List.mem_of_getElem? hf)
   have hil:(i:Int)<(rs.length:Int):=by omega
   have cw4:=cell_at (j:=0) hM.bw rfl;have hnd:=hL.nodup (by simp);have HC:=Lib.hid (HWS.out f N D _ wr hM hS (by simpa using hnd) htk (Nat.zero_le _));have HL:=Lib.hid (And.intro hL (And.intro hf hU));clear hM hS hL hf hU hrow htk hnd out;go_wp2_with fail;refine HC.out.mono ?_;rintro e w5 ⟨rfl,hQ⟩;obtain ⟨N1,D1,hN,hS1,hM1,hu1⟩:=hQ.ex
   have HE:Hid (WalkL K [] (rs.take (i+1)) (N++N1)/\SeenOk (N++N1) D1/\WalkM w5 b (w.heap.size+1+1+1) (w.heap.size) (w.heap.size+1) (w.heap.size+1+1+1+1) (w.heap.size+1+1) sb fl caps ty enc K T q D1 ((N++N1).foldl (fun s x=>step s (K.vof x)) s)/\Upd [w.heap.size+1+1,sb] (((((((((w.alloc (.cells #[.pointer (some ⟨b,0,none⟩)] 40 (0,0)))).alloc (.cells #[.func (Fn.func fl) #[] caps] 203 (0,0)))).alloc (.map #[] 0))).alloc (.cells #[.map (some (w.heap.size+1+1))] 114 (0,0)))).alloc (.cells #[(.func (Fn.func 193) #[] #[.pointer (some ⟨w.heap.size+1+1+1,0,none⟩),.pointer (some ⟨w.heap.size,0,none⟩),.pointer (some ⟨w.heap.size+1,0,none⟩),.pointer (some ⟨w.heap.size+1+1+1+1,0,none⟩)])] 150 (0,0))) w5):=by
    refine ⟨?_,hS1,by rw [List.foldl_append];exact hM1,HL.out.2.2.trans hu1⟩;rw [List.take_add_one,HL.out.2.1];exact HL.out.1.snoc (by simpa using hN)
   clear hQ hN hS1 hM1 hu1 HC;go_wp2_with fail
   go_roundg (rs.length-(i+1))
   case measure=>omega
   case rel=>exact ⟨i+1,N++N1,D1,rfl,by omega,by simp,HE.out.1,HE.out.2.1,HE.out.2.2.1,HE.out.2.2.2⟩
  ·obtain rfl:i=rs.length:=by omega
   have hil:¬ ((rs.length:Int)<(rs.length:Int)):=by omega
   have HE:Hid (BelowQ b sb ty enc step K T q rs s w wr):=by
    rw [List.take_length] at hL
    exact ⟨N,hL,hM.ker,hM.bs,(HUP.out.mono (by simp):Upd [sb] w _).then hU fun x hx=>by
     simp at hx
     rcases hx with rfl | rfl
     ·right;omega
     ·exact .inl (by simp)⟩
   clear hM hS hL hU out;go_wp2_with fail;go_end0;exact ⟨rfl,HE.out⟩
theorem clive_ok (b:Nat) (K:KV) (T:List DM) (q:KPtr) (lv:Value) (rs:List Nat) (w:World) (h:KerIn w b K T q) (hrow:w.ownsRow 0 77 1 lv rs.length (flatRefs rs)) (hl:∀ r,r∈rs->K.A.tk r=true) (hlen:rs.length<=1099511627776) :
  Calls Tryz.prog 124 #[.pointer (some ⟨b,0,none⟩),lv] w fun e w'=>e=.returned (.int .i64 0)/\Upd [] w w':=by
 obtain ⟨fa,fc,rfl,_⟩:=row_nil_len hrow;have HK:=Lib.hid h;have HR:=Lib.hid hrow;have HL:=Lib.hid hl;clear h hrow hl
 go_enter Tryz.func124,Tryz.ntmps124
 go_wp2_with fail
 go_loopg [13] rs.length (fun g s13 wr=>∃ i:Nat,rs.length-i=g/\i<=rs.length/\s13=.int .i64 i/\Upd [] w wr)
 case atStart=>exact ⟨0,by omega,by omega,rfl,Upd.refl _ _⟩
 case round =>
  obtain ⟨i,rfl,hi,rfl,hU⟩:=hrel
  by_cases hlt:i<rs.length
  ·obtain ⟨f,hf⟩ : ∃ f,rs[i]?=some f:=⟨_,List.getElem?_eq_getElem hlt⟩
   have htk:=HL.out f (List.mem_of_getElem? hf);obtain ⟨p,hp,hpt⟩:=ArenaV.tk_iff.1 htk;obtain ⟨g,rfl⟩:=row_some HR.out (by omega)
   have hr:=row_keep HR.out fun k hk=>hU.block k (HR.out.lt k hk).2 (by simp)
   have cf:=row_cell hr (j:=i) (u:=.int .u32 f) (by simp [flatRefs,hf])
   have hil:(i:Int)<(rs.length:Int):=by omega
   have hf32:=HK.out.ok.ref_lt htk;have HP:=Lib.hid (And.intro hp hpt);have HU:=Lib.hid hU;clear hU hr htk hp hpt hf;go_wp2_with fail;refine (nodeof_yes b f K T q p _ (HK.out.upd HU.out (by simp)).mem (by omega) HP.out.1 HP.out.2).mono ?_;rintro e w1 ⟨rfl,hu⟩;have HU1:=Lib.hid (HU.out.trans hu);clear hu;go_wp2_with fail
   go_roundg (rs.length-(i+1))
   case measure=>omega
   case rel=>exact ⟨i+1,rfl,by omega,by simp,HU1.out.alloc _⟩
  ·have hil:¬ ((i:Int)<(rs.length:Int)):=by omega
   have HU:=Lib.hid hU;clear hU;go_wp2_with fail;go_ret;exact ⟨rfl,HU.out⟩
structure SupQ (b:Nat) (K:KV) (T:List DM) (q:KPtr) (f:Nat) (w:World) (e:Ending) (w':World):Prop where
 ex:∃ N:List Nat,WalkL K [] [f] N/\e=.returned (.tuple #[.int .u64 (N.foldl (fun s x=>supStep s (K.vof x)) 0),.int .i64 0])/\KerIn w' b K T q/\Upd [] w w'
theorem support_spec (b f:Nat) (K:KV) (T:List DM) (q:KPtr) (w:World) (h:KerIn w b K T q) (hf:K.A.tk f=true) :
  Calls Tryz.prog 115 #[.pointer (some ⟨b,0,none⟩),.int .u32 f] w fun e w'=>SupQ b K T q f w e w':=by
 have hmf:∀ (fn:Fn) (first cap:Array Value) (w:World),(Instr.makeFunc fn first cap).run Tryz.prog w=.ok (.func fn first cap) w:=fun _ _ _ _=>rfl
 have HK:=Lib.hid h
 have HL:Hid (∀ r,r∈[f]->K.A.tk r=true):=fun r hr=>by
  simp only [List.mem_singleton] at hr;subst hr;exact hf
 have HROW:Hid (∀ w:World,(w.alloc (.cells #[.int .u32 f] 77 (0,0))).ownsRow 0 77 1 (.slice (some ⟨w.heap.size,0,none⟩) 1 1) [f].length (flatRefs [f])):=fun w =>
  World.ownsRow_lit (base:=0) (e:=77) (size:=1) w #[.int .u32 f] 1 (Nat.zero_le _) (by unfold maxLen;omega) rfl
 clear h hf
 go_enter Tryz.func115,Tryz.ntmps115
 go_wp2_with fail;refine (clive_ok b K T q _ [f] _ (HK.out.upd ((Upd.refl [] w).alloc _) (by simp)) (HROW.out w) HL.out (by simp)).mono ?_;rintro e w1 ⟨rfl,hu⟩;have HU1:=Lib.hid (((Upd.refl [] w).alloc _).trans hu);clear hu;go_wp2_with fail;have hsb:=heap_alloc_new w1 (.cells #[.int .u64 0] 90 (0,0));have hsb2:=(heap_alloc_old (w1.alloc (.cells #[.int .u64 0] 90 (0,0))) (.cells #[.int .u32 f] 77 (0,0)) (heap_lt hsb)).trans hsb;have HKA:=Lib.hid (HK.out.upd ((HU1.out.alloc (.cells #[.int .u64 0] 90 (0,0))).alloc (.cells #[.int .u32 f] 77 (0,0))) (by simp));have hrow:=HROW.out (w1.alloc (.cells #[.int .u64 0] 90 (0,0)));rw [World.size_alloc] at hrow
 have hnq:w1.heap.size∉q.all b:=fun hm=>by
  have:=HK.out.mem.lt _ hm;have:=HU1.out.size;omega
 refine (below_spec b w1.heap.size 187 #[.pointer (some ⟨w1.heap.size,0,none⟩)] 90 (fun s=>.int .u64 s) supStep K T q _ [f] 0 _ enters_sup (cb_support w1.heap.size) HKA.out hsb2 hnq hrow (by simp [Value.ownBlock]) HL.out (by simp)).mono ?_;rintro e w2 ⟨rfl,hQ⟩;obtain ⟨N,hN,hk2,hs2,hu2⟩:=hQ.ex;have x0:=cell_at (j:=0) hs2 rfl
 have HE:Hid (WalkL K [] [f] N/\KerIn w2 b K T q/\Upd [] w w2):=⟨hN,hk2,((HU1.out.alloc _).alloc _).then hu2 fun x hx=>by
  simp at hx;subst hx;right;exact HU1.out.size⟩
 clear hQ hN hk2 hs2 hu2 hsb hsb2 hrow;go_wp2_with fail;go_ret2;exact ⟨N,HE.out.1,rfl,HE.out.2.1,HE.out.2.2⟩
theorem Tryz.infoU64:(Tryz.prog.info? 90).map (fun i=>(i.zero,i.size,i.bytes))=some (some (.int .u64 0),1,8):=by kernel_rfl
def flatU (l:List Int):List Value:=l.map fun n=>Value.int .u64 n
def SupIs (K:KV) (r:Nat) (s:Int):Prop:=∃ N:List Nat,WalkL K [] [r] N/\s=N.foldl (fun s x=>supStep s (K.vof x)) 0
def bitT (s:Int) (v:Nat):Bool:=bits BinOp.and IntKind.u64 (s/2 ^ v) 1 == 1
theorem madeU (n:Nat):(madeCells #[Value.int .u64 0] n).toList=List.replicate n (Value.int .u64 0):=by
 apply List.ext_getElem?
 intro i
 by_cases hi:i<n
 ·simp [madeCells,hi,Nat.mod_one]
 ·simp [madeCells,hi]
end Go.Proofs.YtfkopmhpppeheaaGreat
