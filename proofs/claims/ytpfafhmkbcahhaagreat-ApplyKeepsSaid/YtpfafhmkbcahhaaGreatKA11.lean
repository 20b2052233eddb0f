import Derived.Test.YtpfafhmkbcahhaaGreatKA10
import Derived.Test.YtpfafhmkbcahhaaGreatKA5
import Derived.Test.YtpfafhmkbcahhaaGreatKA7
import Derived.Test.YtpfafhmkbcahhaaGreatKA1
import Derived.Deep.QuietTactic
import Derived.Sort.LotA
import Derived.WalkKit
import Derived.BigGuard
import Derived.BigCall
import Derived.CellFam
import Derived.Deep.Draws
import Derived.BigQuiet
import Derived.Sort.EncStr
import Derived.Sort.Grow
import Derived.Sort.LotD1
import Derived.Sort.Row
import Derived.Lib.Strings
import Derived.Lib.Slices
import Derived.Lib.Small
import Derived.Lib.Walk
import Derived.Lib.BitFns
import Derived.Sort.LotD3
import Derived.Deep.RegionWith
import Derived.RowKit
import Derived.Sort.LotD4
import Derived.Sort.LotB
import Derived.Deep.Cut
import Derived.Sort.LotD5
import Derived.Laws.Bits64
import Derived.Laws.Bits64b
import Derived.Sort.AtCall
import Derived.Deep.LoopGhost
import Derived.Sort.LotC
import Derived.RegionTactic
import Derived.Deep.RegionHeld
set_option maxRecDepth 100000
set_option maxHeartbeats 3200000
namespace Go.Proofs.YtpfafhmkbcahhaaGreat
open Go.RowKit Go.Maps Go.ChangeMaps Go.WideShapes
structure OpPost (b:Nat) (K0:KV) (q:KPtr) (t:(Nat->Bool)->Bool) (w:World) (e:Ending) (w':World):Prop where
 ex:∃ (r:Nat) (code:Int) (K':KV) (T':List DM) (q':KPtr),e=.returned (.tuple #[.int .u32 r,.int .i64 code])/\OpR K0 t r code K'/\KerIn w' b K' T' q'/\Upd (q.all b) w w'/\Sub (q.all b) w (q'.all b)
theorem OpPost.of_run {b wb f g h:Nat} {K0:KV} {q:KPtr} {L:Bool->Bool->Bool->Bool} {lvv:Value} {w w1 w':World} {e:Ending} (hk:K0.Ok) (hA:AskQ K0 f g h) (hu:Upd [] w w1) (hF:∀ k,k∈workF wb lvv (.slice none 0 0)->w.heap.size<=k)
  (R:RunPost b K0 q L f g h (wkF wb b q lvv (.slice none 0 0)) w1 e w'):OpPost b K0 q (K0.fun3 L f g h) w e w':=by
 obtain ⟨r,code,K1,M,K',T',q',rfl,S,h1,hu1,X,hk',hu',hs'⟩:=R.ex
 have hin:∀ k,k∈wkF wb b q lvv (.slice none 0 0)->k∈q.all b\/w.heap.size<=k:=fun k hk=>by
  rcases List.mem_append.1 hk with h | h
  ·exact .inl h
  ·exact .inr (hF k h)
 have hsz:=hu.size;refine ⟨_,_,K',T',q',rfl,op_of hk h1 hk'.ok hA S X,hk',(hu.mono (by simp):Upd (q.all b) w w1).then hu' hin,fun k hk=>?_⟩
 rcases hs' k hk with h | h
 ·exact hin k h
 ·right;omega
theorem binary_live (b op f g:Nat) (K:KV) (T:List DM) (q:KPtr) (w:World) (h:KerIn w b K T q) (ho:op<=15) (hf:K.A.tk f=true) (hg:K.A.tk g=true) :
  Calls Tryz.prog 112 #[.pointer (some ⟨b,0,none⟩),.int .u8 op,.int .u32 f,.int .u32 g] w fun e w'=>OpPost b K q (K.fun3 (fun x y _=>opB op x y) f g 0) w e w':=by
 have hmf:∀ (fn:Fn) (first cap:Array Value) (w:World),(Instr.makeFunc fn first cap).run Tryz.prog w=.ok (.func fn first cap) w:=fun _ _ _ _=>rfl
 have hob:decide ((15:Int)<(op:Int))=false:=by simp;omega
 have hob2:decide (15<op)=false:=by simp;omega
 have HK:=Lib.hid h;have HA:Hid (AskQ K f g 0):=⟨hf,hg,h.ok.wf.ok.tk01.1⟩;have HBX:Hid ((w.alloc (.cells #[.int .u8 op] 5 (0,0))).heap[w.heap.size]?=some (.cells #[.int .u8 op] 5 (0,0))):=heap_alloc_new w _;have x0:=cell_at (j:=0) HBX.out rfl
 have HROW:Hid (((w.alloc (.cells #[.int .u8 op] 5 (0,0))).alloc (.cells #[.int .u32 f,.int .u32 g] 54 (0,0))).ownsRow 0 54 1 (.slice (some ⟨w.heap.size+1,0,none⟩) 2 2) [f,g].length (flatRefs [f,g])):=by
  have:=World.ownsRow_lit (base:=0) (e:=54) (size:=1) (w.alloc (.cells #[.int .u8 op] 5 (0,0))) #[.int .u32 f,.int .u32 g] 2 (Nat.zero_le _) (by unfold maxLen;omega) rfl;rw [World.size_alloc] at this;exact this
 have HU:Hid (Upd [] w ((w.alloc (.cells #[.int .u8 op] 5 (0,0))).alloc (.cells #[.int .u32 f,.int .u32 g] 54 (0,0)))):=((Upd.refl [] w).alloc _).alloc _
 have HL:Hid (∀ r,r∈[f,g]->K.A.tk r=true):=fun r hr=>by
  simp only [List.mem_cons,List.not_mem_nil,or_false] at hr
  rcases hr with rfl | rfl
  ·exact hf
  ·exact hg
 clear h hf hg
 go_enter Tryz.func112,Tryz.ntmps112
 go_wp2_with fail;refine (begin_ok b K T q _ [f,g] _ (HK.out.upd HU.out (by simp)) HROW.out HL.out (by simp)).mono ?_;rintro e w1 ⟨wb,lvv,rfl,hW,hu,hF⟩;have hsz:=HU.out.size;have HB1:Hid (w1.heap[w.heap.size]?=some (.cells #[.int .u8 op] 5 (0,0))):=(hu.block _ (by rw [World.size_alloc,World.size_alloc];omega) (by simp)).trans ((heap_alloc_old _ _ (heap_lt HBX.out)).trans HBX.out);have HW:=Lib.hid (And.intro hW (And.intro (HU.out.trans hu) (fun k hk=>Nat.le_trans hsz (hF k hk):∀ k,k∈workF wb lvv (.slice none 0 0)->w.heap.size<=k)))
 have HLF:Hid (LeafOk w1 186 #[.pointer (some ⟨w.heap.size,0,none⟩)] [w.heap.size] (fun x y _=>opB op x y)):=fun w' hw' x y z=>by
  have e:=(hw' w.heap.size (by simp)).trans HB1.out;exact leafB_spec op w.heap.size x y z w' ho (cell_at e rfl)
 have HDJ:Hid (∀ k,k∈wkF wb b q lvv (.slice none 0 0)->k∉[w.heap.size]):=fun k hk hm=>by
  simp only [List.mem_singleton] at hm
  subst hm
  rcases List.mem_append.1 hk with h1 | h1
  ·have:=HK.out.mem.lt _ h1;omega
  ·have:=hF _ h1
   rw [World.size_alloc,World.size_alloc] at this;omega
 clear hW hu hF x0;go_wp2_with fail;refine (wrun_spec wb b 186 f g 0 #[.pointer (some ⟨w.heap.size,0,none⟩)] [w.heap.size] (fun x y _=>opB op x y) K T q lvv w1 HW.out.1 HA.out HLF.out (fun k hk=>by simp only [List.mem_singleton] at hk;subst hk;exact heap_lt HB1.out) HDJ.out enters_B).mono ?_;rintro e w2 hR;obtain ⟨r,code,K',T',q',rfl,hE⟩:=(OpPost.of_run HK.out.ok HA.out HW.out.2.1 HW.out.2.2 hR).ex;have HE:=Lib.hid hE;clear hR hE;go_wp2_with fail;go_ret2;exact ⟨r,code,K',T',q',rfl,HE.out⟩
theorem ite_live (b f g h:Nat) (K:KV) (T:List DM) (q:KPtr) (w:World) (hk:KerIn w b K T q) (hf:K.A.tk f=true) (hg:K.A.tk g=true) (hh:K.A.tk h=true) :
  Calls Tryz.prog 107 #[.pointer (some ⟨b,0,none⟩),.int .u32 f,.int .u32 g,.int .u32 h] w fun e w'=>OpPost b K q (K.fun3 (fun x y z=>if x then y else z) f g h) w e w':=by
 have HK:=Lib.hid hk;have HA:Hid (AskQ K f g h):=⟨hf,hg,hh⟩
 have HROW:Hid ((w.alloc (.cells #[.int .u32 f,.int .u32 g,.int .u32 h] 54 (0,0))).ownsRow 0 54 1 (.slice (some ⟨w.heap.size,0,none⟩) 3 3) [f,g,h].length (flatRefs [f,g,h])) :=
  World.ownsRow_lit (base:=0) (e:=54) (size:=1) w #[.int .u32 f,.int .u32 g,.int .u32 h] 3 (Nat.zero_le _) (by unfold maxLen;omega) rfl
 have HU:Hid (Upd [] w (w.alloc (.cells #[.int .u32 f,.int .u32 g,.int .u32 h] 54 (0,0)))):=(Upd.refl [] w).alloc _
 have HL:Hid (∀ r,r∈[f,g,h]->K.A.tk r=true):=fun r hr=>by
  simp only [List.mem_cons,List.not_mem_nil,or_false] at hr
  rcases hr with rfl | rfl | rfl
  ·exact hf
  ·exact hg
  ·exact hh
 clear hk hf hg hh
 go_enter Tryz.func107,Tryz.ntmps107
 go_wp2_with fail;refine (begin_ok b K T q _ [f,g,h] _ (HK.out.upd HU.out (by simp)) HROW.out HL.out (by simp)).mono ?_;rintro e w1 ⟨wb,lvv,rfl,hW,hu,hF⟩;have hsz:=HU.out.size;have HW:=Lib.hid (And.intro hW (And.intro (HU.out.trans hu) (fun k hk=>Nat.le_trans hsz (hF k hk):∀ k,k∈workF wb lvv (.slice none 0 0)->w.heap.size<=k)))
 have HLF:Hid (LeafOk w1 184 #[] [] (fun x y z=>if x then y else z)):=fun w' _ x y z=>leafI_spec x y z w'
 clear hW hu hF;go_wp2_with fail;refine (wrun_spec wb b 184 f g h #[] [] (fun x y z=>if x then y else z) K T q lvv w1 HW.out.1 HA.out HLF.out (fun k hk=>by simp at hk) (fun k _ hk=>by simp at hk) enters_I).mono ?_;rintro e w2 hR;obtain ⟨r,code,K',T',q',rfl,hE⟩:=(OpPost.of_run HK.out.ok HA.out HW.out.2.1 HW.out.2.2 hR).ex;have HE:=Lib.hid hE;clear hR hE;go_wp2_with fail;go_ret2;exact ⟨r,code,K',T',q',rfl,HE.out⟩
end Go.Proofs.YtpfafhmkbcahhaaGreat
namespace Go.Proofs.YtpfafhmkbcahhaaGreat
def KV.lives (K:KV):List Nat:=(List.range K.A.list.length).filter fun r=>K.A.tk r
theorem KV.mem_lives {K:KV} {x:Nat}:x∈K.lives↔K.A.tk x=true:=by
 simp only [KV.lives,List.mem_filter,List.mem_range]
 exact ⟨fun h=>h.2,fun h=>⟨ArenaV.tk_lt h,h⟩⟩
theorem KV.lives_nodup (K:KV):K.lives.Nodup:=List.Pairwise.filter _ List.nodup_range
theorem KV.lives_len {K:KV} {P:List Nat} (h:K.Wf P):K.lives.length=K.A.used:=by
 have hus:=h.ok.us
 have e1:K.A.free.length=((List.range K.A.list.length).filter fun r=>!(K.A.tk r)).length:=by
  have hfr:∀ r,r∈K.A.free↔r∈(List.range K.A.list.length).filter fun r=>!(K.A.tk r):=by
   intro r
   rw [h.ok.fr r,List.mem_filter,List.mem_range];constructor
   ·rintro ⟨p,hp,hpt⟩
    refine ⟨(List.getElem?_eq_some_iff.1 hp).1,?_⟩
    simp [ArenaV.tk,hp,hpt]
   ·rintro ⟨hl,ht⟩
    refine ⟨K.A.list[r],List.getElem?_eq_getElem hl,?_⟩
    simpa [ArenaV.tk,List.getElem?_eq_getElem hl] using ht
  refine Nat.le_antisymm ?_ ?_
  ·exact List.Nodup.length_le_of_subset h.ok.nd fun r hr=>(hfr r).1 hr
  ·exact List.Nodup.length_le_of_subset (List.Pairwise.filter _ List.nodup_range) fun r hr=>(hfr r).2 hr
 have e2:(List.range K.A.list.length).length=K.lives.length+((List.range K.A.list.length).filter fun r=>!(K.A.tk r)).length:=by
  rw [KV.lives,<- List.countP_eq_length_filter,<- List.countP_eq_length_filter];have hh:=List.length_eq_countP_add_countP (fun r=>K.A.tk r) (l:=List.range K.A.list.length);rw [hh]
  congr 2
  funext a
  cases K.A.tk a <;> rfl
 rw [List.length_range] at e2;omega
theorem KV.used_le {K:KV} {P:List Nat} (h:K.Wf P) {l:List Nat} (hl:∀ x,K.A.tk x=true->x∈l):K.A.used<=l.length:=by
 rw [<- K.lives_len h]
 exact List.Nodup.length_le_of_subset K.lives_nodup fun x hx=>hl x (KV.mem_lives.1 hx)
theorem KV.used_ge {K:KV} {P:List Nat} (h:K.Wf P) {l:List Nat} (hn:l.Nodup) (hl:∀ x,x∈l->K.A.tk x=true):l.length<=K.A.used:=by
 rw [<- K.lives_len h]
 exact List.Nodup.length_le_of_subset hn fun x hx=>KV.mem_lives.2 (hl x hx)
theorem KV.sub_live {K:KV} (hk:K.Ok) (l:Nat) (a:Nat->Bool):∀ (n r:Nat),K.vars-K.dep r<=n->K.A.tk r=true->∃ x,K.A.tk x=true/\∀ y,K.den x y=K.den r (K.mix l a y)
 | n,r,hn,ht=>by
  by_cases hl:l<=K.dep r
  ·refine ⟨r,ht,fun y=>KV.den_same hk.wf hk.ord _ r _ _ ht (Nat.le_refl _) fun v hv hd=>?_⟩
   simp only [KV.mix]
   rw [if_neg (by omega)]
  ·by_cases h2:2<=r
   ·obtain ⟨p,v,hp,hpt,hv,hvl,h3,h4,hd⟩:=hk.wf.node_at h2 ht
    have hb:=hk.ord.below hk.wf h2 hp hpt;have hdl:=hk.wf.dep_lt hk.ord h2 ht;have hlo:=hk.wf.dep_le hk.ord h3;have hhi:=hk.wf.dep_le hk.ord h4
    match n,hn with
    | 0,hn=>omega
    | n+1,hn =>
     have em:∀ y,K.mix l a y v=a v:=fun y=>by simp only [KV.mix];rw [if_pos ⟨hvl,by omega⟩]
     have e:∀ y,K.den r (K.mix l a y)=if a v then K.den p.hi (K.mix l a y) else K.den p.lo (K.mix l a y):=fun y=>by
      rw [KV.den_node hk.wf hk.ord h2 hp hpt,show p.var.toNat=v by omega,em]
     cases ha:a v with
     | true =>
      obtain ⟨x,tx,hx⟩:=KV.sub_live hk l a n p.hi (by omega) h4;exact ⟨x,tx,fun y=>by rw [hx,e,ha];simp⟩
     | false =>
      obtain ⟨x,tx,hx⟩:=KV.sub_live hk l a n p.lo (by omega) h3;exact ⟨x,tx,fun y=>by rw [hx,e,ha];simp⟩
   ·refine ⟨r,ht,fun y=>?_⟩
    rw [K.den_const (by omega),K.den_const (by omega)]
theorem KV.fit_live {K0:KV} (h0:K0.Ok) {t:(Nat->Bool)->Bool} {r:Nat} (ht:K0.A.tk r=true) (hd:∀ x,K0.den r x=t x):¬ NoFit K0 (K0.SubN t):=by
 rintro ⟨K,M,g,hk,hu,R,hus,⟨l,a,hg⟩,hno⟩;obtain ⟨x,tx,hx⟩:=KV.sub_live h0 l a _ r (Nat.le_refl _) ht
 refine hno x (R.ext.tk tx) fun y=>?_
 rw [R.ext.den h0.wf y tx,hx,hd,hg]
theorem OpR.live {K0 K':KV} (h0:K0.Ok) (h':K'.Ok) (u':K'.Uni) {t:(Nat->Bool)->Bool} {s r:Nat} {code:Int} (O:OpR K0 t r code K') (u0:K0.Uni) (ht:K0.A.tk s=true) (hd:∀ x,K0.den s x=t x) (hh:K0.hold s<65535) :
  code=0/\r=s/\OpOk K0 t s K':=by
 rcases O with ⟨rfl,hO⟩ | ⟨_,_,_,s',t',d',f'⟩ | ⟨_,_,_,hno⟩
 ·have:r=s:=KV.canon h'.wf h'.ord u' _ _ _ hO.tk (hO.ext.tk ht) (Nat.le_refl _) fun x=>by rw [hO.den,hO.ext.den h0.wf x ht,hd]
  subst this;exact ⟨rfl,rfl,hO⟩
 ·exfalso
  have:s'=s:=KV.canon h0.wf h0.ord u0 _ _ _ t' ht (Nat.le_refl _) fun x=>by rw [d',hd]
  subst this;omega
 ·exact (KV.fit_live h0 ht hd hno).elim
theorem OpOk.same {K0 K':KV} (h0:K0.Ok) (h':K'.Ok) (u':K'.Uni) {t:(Nat->Bool)->Bool} {s r:Nat} (O:OpOk K0 t r K') (ht:K0.A.tk s=true) (hd:∀ x,K0.den s x=t x) (x:Nat):K'.A.tk x=true↔K0.A.tk x=true:=by
 refine ⟨fun hx=>?_,fun hx=>O.ext.tk hx⟩
 cases h:K0.A.tk x with
 | true=>rfl
 | false =>
  exfalso
  obtain ⟨l,a,hg⟩:=O.new x hx h;obtain ⟨z,tz,hz⟩:=KV.sub_live h0 l a _ s (Nat.le_refl _) ht
  have:x=z:=KV.canon h'.wf h'.ord u' _ _ _ hx (O.ext.tk tz) (Nat.le_refl _) fun y=>by rw [hg,O.ext.den h0.wf y tz,hz,hd]
  subst this
  rw [h] at tz;cases tz
end Go.Proofs.YtpfafhmkbcahhaaGreat
namespace Go.Proofs.YtpfafhmkbcahhaaGreat
open Go.RowKit Go.Maps Go.ChangeMaps Go.WideShapes
theorem flatN_set (l:List Nat) (r n:Nat):(flatN l).set r (.int .i64 n)=flatN (l.set r n):=by simp [flatN,List.map_set]
theorem KerMem.setOrder {w:World} {b g n' c r n:Nat} {K:KV} {T:List DM} {q:KPtr} (h:KerMem w b K T q) (hq:q.ov=.slice (some ⟨g,0,none⟩) n' c) (hr:r<K.order.length) :
  KerMem (w.setCell ⟨g,r,none⟩ (.int .i64 n)) b { K with order:=K.order.set r n } T q:=by
 have hg:q.o g=5:=h.oo g (by rw [hq];rfl)
 have hne:∀ {k c},q.o k=c->c≠5->k≠g:=fun {k c} hk hc hm=>hc (by rw [<- hk,hm,hg])
 have hk:∀ {k c},q.o k=c->c≠5->(w.setCell ⟨g,r,none⟩ (.int .i64 n)).heap[k]?=w.heap[k]?:=fun hk hc=>heap_set_ne (hne hk hc)
 refine ⟨by rw [hk h.ob (by omega)];exact h.blk,h.ar.keep fun k hm=>hk (h.oa k hm) (by omega),h.tab.keep fun k hm=>hk (h.ot k hm) (by omega),row_keep h.us fun k hm=>hk (h.ou k hm) (by omega),
  row_keep h.hs fun k hm=>hk (h.oh k hm) (by omega),?_,row_keep h.ls fun k hm=>hk (h.ol k hm) (by omega),row_keep h.ts fun k hm=>hk (h.ox k hm) (by omega),
  h.ob,h.oa,h.ot,h.ou,h.oh,h.oo,h.ol,h.ox⟩
 have hu:=h.os;rw [hq] at hu ⊢;have:=row_set hu (j:=r) (by omega) (.int .i64 n);rw [flatN_set] at this
 simpa using this
theorem KerMem.setLevel {w:World} {b g n' c r n:Nat} {K:KV} {T:List DM} {q:KPtr} (h:KerMem w b K T q) (hq:q.lv=.slice (some ⟨g,0,none⟩) n' c) (hr:r<K.level.length) :
  KerMem (w.setCell ⟨g,r,none⟩ (.int .i64 n)) b { K with level:=K.level.set r n } T q:=by
 have hg:q.o g=6:=h.ol g (by rw [hq];rfl)
 have hne:∀ {k c},q.o k=c->c≠6->k≠g:=fun {k c} hk hc hm=>hc (by rw [<- hk,hm,hg])
 have hk:∀ {k c},q.o k=c->c≠6->(w.setCell ⟨g,r,none⟩ (.int .i64 n)).heap[k]?=w.heap[k]?:=fun hk hc=>heap_set_ne (hne hk hc)
 refine ⟨by rw [hk h.ob (by omega)];exact h.blk,h.ar.keep fun k hm=>hk (h.oa k hm) (by omega),h.tab.keep fun k hm=>hk (h.ot k hm) (by omega),row_keep h.us fun k hm=>hk (h.ou k hm) (by omega),
  row_keep h.hs fun k hm=>hk (h.oh k hm) (by omega),row_keep h.os fun k hm=>hk (h.oo k hm) (by omega),?_,row_keep h.ts fun k hm=>hk (h.ox k hm) (by omega),
  h.ob,h.oa,h.ot,h.ou,h.oh,h.oo,h.ol,h.ox⟩
 have hu:=h.ls;rw [hq] at hu ⊢;have:=row_set hu (j:=r) (by omega) (.int .i64 n);rw [flatN_set] at this
 simpa using this
theorem KerMem.growTrail {w w5:World} {b g5 cap l:Nat} {X:Obj} {K:KV} {T:List DM} {q:KPtr} (h:KerMem w b K T q) (hg:(w.alloc X).grownBy w5 q.tv.ownBlock) (hat:q.tv.ownBlock=some g5\/g5=w.heap.size+1)
  (hown:w5.ownsRow 0 3 1 (.slice (some ⟨g5,0,none⟩) (K.trail.length+1) cap) (K.trail.length+1) (flatN K.trail++[.int .i64 l])) :
  KerMem (w5.setCell ⟨b,7,none⟩ (.slice (some ⟨g5,0,none⟩) (K.trail.length+1) cap)) b { K with trail:=K.trail++[l] } T { q with tv:=.slice (some ⟨g5,0,none⟩) (K.trail.length+1) cap,o:=retag q w.heap.size 7 }:=by
 have hb:=heap_lt h.blk
 have hbg:b≠g5:=by
  rcases hat with e | e
  ·rintro rfl;have e1:=h.ob;have e2:=h.ox b e;omega
  ·omega
 have keep:∀ {k c:Nat},q.o k=c->c≠7->c≠0->k<w.heap.size->(w5.setCell ⟨b,7,none⟩ (.slice (some ⟨g5,0,none⟩) (K.trail.length+1) cap)).heap[k]?=w.heap[k]?:=by
  intro k c hk hc h0 hl
  rw [heap_set_ne (by rintro rfl;exact h0 (hk ▸ h.ob)),hg.block k (by rw [World.size_alloc];omega) (fun e=>hc (hk ▸ h.ox k e.symm)),Below.heap_alloc _ _ _ hl]
 have hbk:w5.heap[b]?=w.heap[b]?:=by
  rw [hg.block b (by rw [World.size_alloc];omega) (fun e=>by have e1:=h.ob;have e2:=h.ox b e.symm;omega),Below.heap_alloc _ _ _ hb]
 rw [h.blk] at hbk
 refine ⟨by rw [heap_set_eq hbk];simp,h.ar.keep fun k hm=>keep (h.oa k hm) (by omega) (by omega) (h.ar.lt k hm),h.tab.keep fun k hm=>keep (h.ot k hm) (by omega) (by omega) (h.tab.lt k hm),
  row_keep h.us fun k hm=>keep (h.ou k hm) (by omega) (by omega) (h.us.lt k hm).2,row_keep h.hs fun k hm=>keep (h.oh k hm) (by omega) (by omega) (h.hs.lt k hm).2,row_keep h.os fun k hm=>keep (h.oo k hm) (by omega) (by omega) (h.os.lt k hm).2,row_keep h.ls fun k hm=>keep (h.ol k hm) (by omega) (by omega) (h.ls.lt k hm).2,?_,?_,?_,?_,?_,?_,?_,?_,?_⟩
 ·show World.ownsRow _ 0 _ 1 _ (K.trail++[l]).length (flatN (K.trail++[l]))
  have e:=row_ne hown (a:=⟨b,7,none⟩) (by simpa [Value.ownBlock] using hbg) (.slice (some ⟨g5,0,none⟩) (K.trail.length+1) cap)
  simpa [flatN] using e
 ·show retag q _ _ b=0
  rw [retag_old hb];exact h.ob
 ·intro k hk;show retag q _ _ k=1;rw [retag_old (h.ar.lt k hk)];exact h.oa k hk
 ·intro k hk;show retag q _ _ k=2;rw [retag_old (h.tab.lt k hk)];exact h.ot k hk
 ·intro k hk;show retag q _ _ k=3;rw [retag_old (h.us.lt k hk).2];exact h.ou k hk
 ·intro k hk;show retag q _ _ k=4;rw [retag_old (h.hs.lt k hk).2];exact h.oh k hk
 ·intro k hk;show retag q _ _ k=5;rw [retag_old (h.os.lt k hk).2];exact h.oo k hk
 ·intro k hk;show retag q _ _ k=6;rw [retag_old (h.ls.lt k hk).2];exact h.ol k hk
 ·intro k hk
  simp [Value.ownBlock] at hk;subst hk
  show retag q _ _ g5=7
  rcases hat with e | e
  ·rw [retag_old (h.ts.lt g5 e).2];exact h.ox g5 e
  ·unfold retag;rw [if_pos (by omega)]
def KV.swapK (K:KV) (l:Nat):KV:={ K with order:=(K.order.set l (K.order.getD (l+1) 0)).set (l+1) (K.order.getD l 0),level:=(K.level.set (K.order.getD l 0) (l+1)).set (K.order.getD (l+1) 0) l }
theorem getD_eq_some {l:List Nat} {i:Nat} (h:i<l.length):l[i]?=some (l.getD i 0):=by
 rw [List.getD_eq_getElem?_getD,List.getElem?_eq_getElem h];rfl
theorem KV.Perm.swap {K:KV} (h:K.Perm) {l:Nat} (hl:l+2<=K.vars):(K.swapK l).Perm/\(∀ j,(K.swapK l).order.getD j 0=if j=l+1 then K.order.getD l 0 else if j=l then K.order.getD (l+1) 0 else K.order.getD j 0) /\
  ∀ v,(K.swapK l).lev v=if v=K.order.getD (l+1) 0 then l else if v=K.order.getD l 0 then l+1 else K.lev v:=by
 have hx:=h.oo l (by omega);have hy:=h.oo (l+1) (by omega);have hol:=h.ol;have hll:=h.ll
 have ho:∀ j,(K.swapK l).order.getD j 0=if j=l+1 then K.order.getD l 0 else if j=l then K.order.getD (l+1) 0 else K.order.getD j 0:=fun j=>by
  simp only [KV.swapK]
  rw [getD_set (by rw [List.length_set];omega),getD_set (by omega)]
 have hv:∀ v,(K.swapK l).lev v=if v=K.order.getD (l+1) 0 then l else if v=K.order.getD l 0 then l+1 else K.lev v:=fun v=>by
  simp only [KV.swapK,KV.lev]
  rw [getD_set (by rw [List.length_set];omega),getD_set (by omega)]
 have hne:K.order.getD l 0≠K.order.getD (l+1) 0:=fun e=>by rw [e] at hx;omega
 refine ⟨⟨by simpa [KV.swapK] using hol,by simpa [KV.swapK] using hll,fun v hvl=>?_,fun j hj=>?_⟩,ho,hv⟩
 ·have hl1:=h.lo v hvl
  rw [hv]
  by_cases e1:v=K.order.getD (l+1) 0
  ·rw [if_pos e1,ho,if_neg (by omega),if_pos rfl]
   exact ⟨by show l<K.vars;omega,e1.symm⟩
  ·rw [if_neg e1]
   by_cases e2:v=K.order.getD l 0
   ·rw [if_pos e2,ho,if_pos rfl]
    exact ⟨by show l+1<K.vars;omega,e2.symm⟩
   ·rw [if_neg e2,ho]
    have n1:K.lev v≠l+1:=fun e=>e1 (by rw [<- hl1.2,e])
    have n2:K.lev v≠l:=fun e=>e2 (by rw [<- hl1.2,e])
    rw [if_neg n1,if_neg n2];exact hl1
 ·have hj':j<K.vars:=hj
  have hj1:=h.oo j hj';rw [ho]
  by_cases e1:j=l+1
  ·rw [if_pos e1,hv,if_neg hne,if_pos rfl]
   exact ⟨hx.1,e1.symm⟩
  ·rw [if_neg e1]
   by_cases e2:j=l
   ·rw [if_pos e2,hv,if_pos rfl]
    exact ⟨hy.1,e2.symm⟩
   ·rw [if_neg e2,hv]
    have n1:K.order.getD j 0≠K.order.getD (l+1) 0:=fun e=>by rw [e] at hj1;omega
    have n2:K.order.getD j 0≠K.order.getD l 0:=fun e=>by rw [e] at hj1;omega
    rw [if_neg n1,if_neg n2];exact hj1
theorem KV.bare_tk {K:KV} (hw:K.Wf []) (h:K.A.used=2) {r:Nat} (ht:K.A.tk r=true):r<2:=by
 by_cases h2:r<2
 ·exact h2
 ·have h01:=hw.ok.tk01
  have:=K.used_ge hw (l:=[0,1,r]) (by simp;omega) (fun x hx=>by
   simp at hx
   rcases hx with rfl | rfl | rfl
   ·exact h01.1
   ·exact h01.2
   ·exact ht)
  simp at this;omega
theorem TInv.bare {T:List DM} {K:KV} {X:List Nat} (h:TInv T K X) (hw:K.Wf []) (hb:K.A.used=2) {v:Nat} {D:DM} (hv:T[v]?=some D) (k:Lit):Maps.has D k=false:=by
 cases e:Maps.has D k with
 | false=>rfl
 | true =>
  obtain ⟨r,p,h2,hp,hpt,_⟩:=h.dom v D k hv e;have:=KV.bare_tk hw hb (ArenaV.tk_iff.2 ⟨p,hp,hpt⟩);omega
theorem KV.Ok.swap_bare {K:KV} (h:K.Ok) (hb:K.A.used=2) {l:Nat} (hl:l+2<=K.vars):(K.swapK l).Ok:=by
 have hw:=h.wf
 have no:∀ (q:Nat) (p:PlaceV),2<=q->K.A.list[q]?=some p->p.taken=true->False:=fun q p h2 hp hpt=>by
  have:=KV.bare_tk hw hb (ArenaV.tk_iff.2 ⟨p,hp,hpt⟩);omega
 refine ⟨⟨hw.ok,hw.len,hw.ul,hw.tu,hw.ht,hw.hm,hw.eq,hw.pt,hw.cl,hw.vr,hw.vs⟩,h.pos,⟨(h.ord.pm.swap hl).1,fun q p h2 hp hpt=>(no q p h2 hp hpt).elim,fun q p h2 hp hpt=>(no q p h2 hp hpt).elim⟩,h.tl⟩
theorem Tryz.infoIntE:(Tryz.prog.info? 3).map (fun i=>(i.zero,i.size,i.bytes))=some (some (.int .i64 0),1,8):=by kernel_rfl
theorem crossings_bare (b x y:Nat) (K:KV) (T:List DM) (q:KPtr) (w:World) (h:KerIn w b K T q) (hb:K.A.used=2) (hx:x<K.vars) :
  Calls Tryz.prog 202 #[.pointer (some ⟨b,0,none⟩),.int .i64 x,.int .i64 y] w fun e w'=>e=.returned (.slice none 0 0)/\Upd [] w w':=by
 have hT:x<T.length:=by rw [h.ti.len];exact hx
 have hD:T[x]?=some T[x]:=List.getElem?_eq_getElem hT;have hem:=h.ti.bare h.ok.wf hb hD
 have hsz:Maps.size T[x]<=1048576:=by
  obtain ⟨_,_,_,_,_,_,_,_,ho⟩:=h.mem.tab.cells hD;exact h.ti.size h.ok.wf hD (ho.canon nodeKeyed) (ho.tidy nodeKeyed)
 have HR:=Lib.hid (refs_empty q.t q.FT x T T[x] w h.mem.tab hD hem hsz);have c1:w.cell? ⟨b,1,none⟩=some (.pointer (some ⟨q.t,0,none⟩)):=cell_at h.mem.blk rfl;clear h hb hD hem hsz
 go_enter Tryz.func202,Tryz.ntmps202
 go_wp2_with fail;refine HR.out.mono ?_;rintro e w1 ⟨a,c,rfl,hu⟩;have HU:=Lib.hid hu;clear hu HR c1;go_wp2_with fail
 go_loopg [7,26] 0 (fun gg s7 s26 wr=>gg=0/\s7=.slice none 0 0/\s26=.int .i64 0/\wr=w1)
 case atStart=>exact ⟨rfl,rfl,rfl,rfl⟩
 case round =>
  obtain ⟨rfl,rfl,rfl,rfl⟩:=hrel;go_wp2_with fail;go_ret;exact ⟨rfl,HU.out⟩
theorem own_emptyN {W:World} {mb:Nat} (h:W.heap[mb]?=some (.map #[] 0)):W.ownsMap Tryz.prog 115 (plainElem (H:=Unit) Tryz.prog 3) mb 0 (.map []):=by
 obtain ⟨es,clock,q1,q2,q3,q4⟩:=World.ownsMap_made W Tryz.prog 115 (plainElem (H:=Unit) Tryz.prog 3);rw [heap_alloc_new] at q1;cases q1;exact ⟨#[],0,h,q2,Nat.zero_le _,rfl⟩
theorem rowN_cell {w:World} {base g n' c:Nat} {l:List Nat} {n:Nat} (h:w.ownsRow base 3 1 (.slice (some ⟨g,0,none⟩) n' c) n (flatN l)) {j:Nat} (hj:j<l.length):w.cell? ⟨g,j,none⟩=some (.int .i64 (l.getD j 0:Nat)) :=
 row_cell h (by rw [flatN,List.getElem?_map,getD_eq_some hj];rfl)
theorem fresh_none (b:Nat) (x:Int) (w:World):Calls Tryz.prog 204 #[.pointer (some ⟨b,0,none⟩),.int .i64 x,.slice none 0 0] w fun e w'=>e=.returned (.int .i64 0)/\Upd [] w w':=by
 have hmm:=@run_makeMap Tryz.prog;have HM:=Lib.hid (own_emptyN (heap_alloc_new w (.map #[] 0)));have HU:=Lib.hid ((Upd.refl [] w).alloc (.map #[] 0))
 go_enter Tryz.func204,Tryz.ntmps204
 go_wp2_with fail
 have hlen:=fun ty=>HM.out.len Tryz.underlying312 ty
 go_loopg [17] 0 (fun gg s17 wr=>gg=0/\s17=.int .i64 0/\wr=w.alloc (.map #[] 0))
 case atStart=>exact ⟨rfl,rfl,rfl⟩
 case round =>
  obtain ⟨rfl,rfl,rfl⟩:=hrel;go_wp2_with fail;go_ret;exact ⟨rfl,HU.out⟩
structure TurnE (b:Nat) (K:KV) (q:KPtr) (l:Nat) (T:List DM) (w w':World):Prop where
 mem:KerMem w' b (K.swapK l) T q
 up:Upd (q.all b) w w'
theorem turn_end {b l go gl co cl n1 n2:Nat} {K:KV} {T:List DM} {q:KPtr} {w:World} (hm:KerMem w b K T q) (ho:q.ov=.slice (some ⟨go,0,none⟩) n1 co) (hv:q.lv=.slice (some ⟨gl,0,none⟩) n2 cl) (h1:l<K.order.length) (h2:l+1<K.order.length)
  (h3:K.order.getD l 0<K.level.length) (h4:K.order.getD (l+1) 0<K.level.length) :
  KerMem ((((w.setCell ⟨go,l,none⟩ (.int .i64 (K.order.getD (l+1) 0:Nat))).setCell ⟨go,l+1,none⟩ (.int .i64 (K.order.getD l 0:Nat))).setCell ⟨gl,K.order.getD l 0,none⟩ (.int .i64 ((l:Int)+1))).setCell ⟨gl,K.order.getD (l+1) 0,none⟩ (.int .i64 l)).drew.drew b (K.swapK l) T q /\
  Upd (q.all b) w ((((w.setCell ⟨go,l,none⟩ (.int .i64 (K.order.getD (l+1) 0:Nat))).setCell ⟨go,l+1,none⟩ (.int .i64 (K.order.getD l 0:Nat))).setCell ⟨gl,K.order.getD l 0,none⟩ (.int .i64 ((l:Int)+1))).setCell ⟨gl,K.order.getD (l+1) 0,none⟩ (.int .i64 l)).drew.drew:=by
 have m1:=hm.setOrder (n:=K.order.getD (l+1) 0) ho h1;have m2:=m1.setOrder (n:=K.order.getD l 0) (r:=l+1) ho (by simpa using h2);have m3:=m2.setLevel (n:=l+1) (r:=K.order.getD l 0) hv h3;have m4:=m3.setLevel (n:=l) (r:=K.order.getD (l+1) 0) hv (by rw [List.length_set];exact h4);have go1:go∈q.all b:=KPtr.mem.2 (.inr (.inr (.inr (.inr (.inr (.inl (by rw [ho];rfl)))))));have gl1:gl∈q.all b:=KPtr.mem.2 (.inr (.inr (.inr (.inr (.inr (.inr (.inl (by rw [hv];rfl))))))))
 exact ⟨(m4.upd ((Upd.refl [] _).drew) (by simp)).upd ((Upd.refl [] _).drew) (by simp),
  ((((((Upd.refl (q.all b) w).setCell (p:=⟨go,l,none⟩) (.inl go1) _).setCell (p:=⟨go,l+1,none⟩) (.inl go1) _).setCell (p:=⟨gl,_,none⟩) (.inl gl1) _).setCell (p:=⟨gl,_,none⟩) (.inl gl1) _).drew).drew⟩
theorem turn_bare (b l:Nat) (K:KV) (T:List DM) (q:KPtr) (w:World) (h:KerIn w b K T q) (hb:K.A.used=2) (hl:l+2<=K.vars) :
  Calls Tryz.prog 136 #[.pointer (some ⟨b,0,none⟩),.int .i64 l] w fun e w'=>e=.returned (.bool true)/\TurnE b K q l T w w':=by
 have hw:=h.ok.wf;have hpm:=h.ok.ord.pm;have hvs:=hw.vs;have hol:=hpm.ol;have hll:=hpm.ll;have hx:=hpm.oo l (by omega);have hy:=hpm.oo (l+1) (by omega);obtain ⟨x,hxe⟩ : ∃ x,K.order.getD l 0=x:=⟨_,rfl⟩;obtain ⟨y,hye⟩ : ∃ y,K.order.getD (l+1) 0=y:=⟨_,rfl⟩
 have hxv:x<K.vars:=by rw [<- hxe];exact hx.1
 have hyv:y<K.vars:=by rw [<- hye];exact hy.1
 have hos:=h.mem.os;have hls:=h.mem.ls;obtain ⟨go,co,hqo,_,_⟩:=hos.form (by omega);obtain ⟨gl,cl,hql,_,_⟩:=hls.form (by omega);have HQ:=Lib.hid (And.intro hqo hql);rw [hqo] at hos;rw [hql] at hls
 have b5:w.cell? ⟨b,5,none⟩=some (.slice (some ⟨go,0,none⟩) K.order.length co):=by rw [<- hqo];exact cell_at h.mem.blk rfl
 have o0:w.cell? ⟨go,l,none⟩=some (.int .i64 x):=by rw [<- hxe];exact rowN_cell hos (by omega)
 have o1:w.cell? ⟨go,l+1,none⟩=some (.int .i64 y):=by rw [<- hye];exact rowN_cell hos (by omega)
 have hli:(l:Int)<(K.order.length:Int):=by omega
 have hli1:(l:Int)+1<(K.order.length:Int):=by omega
 have hli2:0<=(l:Int)+1:=by omega
 have hw1:IntKind.i64.wrap ((l:Int)+1)=(l:Int)+1:=IntWalk.i64_in _ (by omega);have HK:=Lib.hid h;have HB:=Lib.hid hb;clear hos hls hx hy;clear h hb hqo hql
 go_enter Tryz.func136,Tryz.ntmps136
 go_wp2_with fail
 go_region
 have HK1:=Lib.hid (HK.out.upd ((Upd.refl [] w).drew) (by simp));clear b5 o0 o1;go_wp2_with fail;refine (crossings_bare b x y K T q _ HK1.out HB.out hxv).mono ?_;rintro e w1 ⟨rfl,hu⟩;have HU1:=Lib.hid (((Upd.refl [] w).drew).trans hu);clear hu HK1;go_wp2_with fail
 have HF:Hid (∀ n:Still w1,Calls Tryz.prog 204 #[.pointer (some ⟨b,0,none⟩),.int .i64 x,.slice none 0 0] n.x fun e w2=>e=.returned (.int .i64 0)/\∃ m:Still w1,w2=m.x):=fun n =>
  (fresh_none b x n.x).mono fun _ _ ⟨a,u⟩=>⟨a,⟨_,n.u.trans u⟩,rfl⟩
 have hroom:K.room 0=true:=by
  have h1:=HB.out;have h2:=HK.out.ok.wf.ok.us;have h3:=HK.out.ok.wf.ok.l2;have h4:=HK.out.ok.wf.ok.lp
  simp [KV.room];omega
 have HR:Hid (∀ n:Still w1,Calls Tryz.prog 203 #[.pointer (some ⟨b,0,none⟩),.int .i64 0] n.x fun e w2=>e=.returned (.bool true)/\∃ m:Still w1,w2=m.x):=fun n =>
  (room_spec b 0 K T q n.x ((HK.out.upd HU1.out (by simp)).upd n.u (by simp)).mem (by omega) (by omega)).mono fun _ _ ⟨a,u⟩=>⟨by rw [a,hroom],⟨_,n.u.trans u⟩,rfl⟩
 clear hroom;refine wp_region_still (by kernel_rfl) (by kernel_rfl) ?_
 repeat (quiet_step ((first | (go_at_call 204;exact HF.out _) | (go_at_call 203;exact HR.out _))))
 refine wpQuiet_nil ?_;rintro _ ⟨n2,rfl⟩;have HU2:=Lib.hid (HU1.out.trans n2.u);clear HF HR;go_wp2_with fail
 go_loopg [47] 0 (fun gg s47 wr=>gg=0/\s47=.int .i64 0/\wr=n2.x)
 case atStart=>exact ⟨rfl,rfl,rfl⟩
 case round =>
  obtain ⟨rfl,rfl,rfl⟩:=hrel;go_wp2_with fail
  go_loopg [62] 0 (fun gg s62 wr=>gg=0/\s62=.int .i64 0/\wr=n2.x)
  case atStart=>exact ⟨rfl,rfl,rfl⟩
  case round =>
   obtain ⟨rfl,rfl,rfl⟩:=hrel;go_wp2_with fail
   go_loopg [119] 0 (fun gg s119 wr=>gg=0/\s119=.int .i64 0/\wr=n2.x)
   case atStart=>exact ⟨rfl,rfl,rfl⟩
   case round =>
    obtain ⟨rfl,rfl,rfl⟩:=hrel;have hm:=(HK.out.upd HU2.out (by simp)).mem;have hos:=hm.os;have hls:=hm.ls;rw [HQ.out.1] at hos;rw [HQ.out.2] at hls
    have b5:n2.x.cell? ⟨b,5,none⟩=some (.slice (some ⟨go,0,none⟩) K.order.length co):=by rw [<- HQ.out.1];exact cell_at hm.blk rfl
    have b6:n2.x.cell? ⟨b,6,none⟩=some (.slice (some ⟨gl,0,none⟩) K.level.length cl):=by rw [<- HQ.out.2];exact cell_at hm.blk rfl
    have o0:n2.x.cell? ⟨go,l,none⟩=some (.int .i64 (K.order.getD l 0:Nat)):=rowN_cell hos (by omega);have o1:n2.x.cell? ⟨go,l+1,none⟩=some (.int .i64 (K.order.getD (l+1) 0:Nat)):=rowN_cell hos (by omega);have l0:n2.x.cell? ⟨gl,x,none⟩=some (.int .i64 (K.lev x:Nat)):=rowN_cell hls (by omega);have l1:n2.x.cell? ⟨gl,y,none⟩=some (.int .i64 (K.lev y:Nat)):=rowN_cell hls (by omega);have f0:=row_frozen hos l;have f1:=row_frozen hos (l+1);have g0:=row_frozen hls x;have g1:=row_frozen hls y
    have hxl:(x:Int)<(K.level.length:Int):=by omega
    have hyl:(y:Int)<(K.level.length:Int):=by omega
    have hgo:go≠gl:=by
     rintro rfl;have e1:=hm.oo go (by rw [HQ.out.1];rfl);have e2:=hm.ol go (by rw [HQ.out.2];rfl);omega
    have hbo:b≠go:=by
     rintro rfl;have e1:=hm.oo b (by rw [HQ.out.1];rfl);have e2:=hm.ob;omega
    have hbl:b≠gl:=by
     rintro rfl;have e1:=hm.ol b (by rw [HQ.out.2];rfl);have e2:=hm.ob;omega
    have hxy:x≠y:=fun e=>by
     have h1:=(hpm.oo l (by omega)).2;have h2:=(hpm.oo (l+1) (by omega)).2
     rw [hxe] at h1;rw [hye] at h2;rw [e] at h1;omega
    have HM:=Lib.hid hm;clear hm hos hls;go_wp2_with fail
    go_region
    go_wp2_with fail
    go_region
    go_wp2_with fail;go_ret;refine ⟨rfl,?_⟩;have:=turn_end (l:=l) HM.out HQ.out.1 HQ.out.2 (by omega) (by omega) (by rw [hxe];omega) (by rw [hye];omega);rw [hxe,hye] at this;exact ⟨this.1,HU2.out.trans0 this.2⟩
def KV.exchK (K:KV) (l:Nat):KV:={ K.swapK l with trail:=K.trail++[l] }
theorem KV.Ok.exch_bare {K:KV} (h:K.Ok) (hb:K.A.used=2) {l:Nat} (hl:l+2<=K.vars):(K.exchK l).Ok:=by
 have hs:=h.swap_bare hb hl;refine ⟨⟨hs.wf.ok,hs.wf.len,hs.wf.ul,hs.wf.tu,hs.wf.ht,hs.wf.hm,hs.wf.eq,hs.wf.pt,hs.wf.cl,hs.wf.vr,hs.wf.vs⟩,hs.pos,hs.ord.same rfl rfl rfl rfl,fun x hx=>?_⟩
 rcases List.mem_append.1 hx with hx | hx
 ·exact h.tl x hx
 ·simp at hx;subst hx;exact hl
structure ExchE (b:Nat) (K:KV) (l:Int) (q:KPtr) (w:World) (e:Ending) (w':World):Prop where
 ex:∃ (code:Int) (K':KV) (T':List DM) (q':KPtr),e=.returned (.int .i64 code)/\((code=1/\(l<0\/(K.vars:Int)-2<l)/\K'=K)\/(code=0/\0<=l/\l<=(K.vars:Int)-2/\K'=K.exchK l.toNat))/\KerIn w' b K' T' q'/\Upd (q.all b) w w'/\Sub (q.all b) w (q'.all b)
theorem exchange_bare (b:Nat) (l:Int) (K:KV) (T:List DM) (q:KPtr) (w:World) (h:KerIn w b K T q) (hb:K.A.used=2) (htr:K.trail.length<=1000000) :
  Calls Tryz.prog 49 #[.pointer (some ⟨b,0,none⟩),.int .i64 l] w fun e w'=>ExchE b K l q w e w':=by
 obtain ⟨ti,hi0,hz0,hz1',hz2⟩:=info_parts Tryz.infoIntE;have HI:=Lib.hid (And.intro hi0 (And.intro hz0 (And.intro hz1' hz2)));have hvs:=h.ok.wf.vs;have c4:w.cell? ⟨b,4,none⟩=some (.int .i64 K.vars):=cell_at h.mem.blk rfl;have HK:=Lib.hid h;have HB:=Lib.hid hb;clear h hb hi0 hz0 hz1' hz2
 by_cases h0:l<0
 ·have hd0:decide (l<0)=true:=by simpa using h0
  go_enter Tryz.func49,Tryz.ntmps49
  go_wp2_with fail;go_ret;exact ⟨1,K,T,q,rfl,.inl ⟨rfl,.inl h0,rfl⟩,HK.out,Upd.refl _ _,Sub.refl _ _⟩
 ·have hd0:decide (l<0)=false:=by simpa using h0
  have hsub:IntKind.i64.wrap ((K.vars:Int)-2)=(K.vars:Int)-2:=IntWalk.i64_in _ (by omega)
  by_cases h1:(K.vars:Int)-2<l
  ·have hd1:decide ((K.vars:Int)-2<l)=true:=by simpa using h1
   go_enter Tryz.func49,Tryz.ntmps49
   go_wp2_with fail;go_ret;exact ⟨1,K,T,q,rfl,.inl ⟨rfl,.inr h1,rfl⟩,HK.out,Upd.refl _ _,Sub.refl _ _⟩
  ·have hd1:decide ((K.vars:Int)-2<l)=false:=by simpa using h1
   obtain ⟨n,rfl⟩ : ∃ n:Nat,l=(n:Int):=⟨l.toNat,by omega⟩;have HT:=Lib.hid (turn_bare b n K T q w HK.out HB.out (by omega))
   go_enter Tryz.func49,Tryz.ntmps49
   go_wp2_with fail;refine HT.out.mono ?_;rintro e w1 ⟨rfl,hm,hu⟩;have hrow:=hm.ts;obtain ⟨fa,fc,hfv,_⟩:=row_nil_len hrow
   have hb7:w1.cell? ⟨b,7,none⟩=some (.slice fa K.trail.length fc):=by rw [show Value.slice fa K.trail.length fc=q.tv from hfv.symm];exact cell_at hm.blk rfl
   rw [hfv] at hrow;have HROW:Hid (w1.ownsRow 0 3 1 (.slice fa K.trail.length fc) K.trail.length (flatN K.trail)):=hrow;have HFV:=Lib.hid hfv;have HM:=Lib.hid (And.intro hm hu);have hbl:=heap_lt hm.blk
   have HC2:Hid (∀ u,u∈[Value.int .i64 n]->u.oneCell'=true):=by intro u hu;simp at hu;subst hu;rfl
   clear hm hu hrow hfv HT c4
   go_wp2_with (at_builtin;go_must (refine wpList_append_lies _ rfl (.tmp 29) (.tmp 31) 22 rfl 0 3 ti _ 1 8 Tryz.underlying22 HI.out.1 HI.out.2.1 HI.out.2.2.1 HI.out.2.2.2 (by rfl) (by decide) _ K.trail.length (flatN K.trail) rfl (HROW.out.alloc _) ⟨w1.heap.size,0,none⟩ 1 1 [.int .i64 n] rfl rfl ?c1 HC2.out (by omega) (by unfold maxLen;omega) (by omega) (by omega) _ rfl ?_))
   case c1=>exact World.news_of_block (heap_alloc_new w1 (.cells #[.int .i64 n] 3 (0,0)))
   intro g5 cap w5 hown hgr hat hlt5
   have hat':(Value.slice fa K.trail.length fc).ownBlock=some g5\/g5=w1.heap.size+1:=hat
   have hbk5:w5.heap[b]?=w1.heap[b]?:=by
    have hne:some b≠(Value.slice fa K.trail.length fc).ownBlock:=by
     intro e
     have e1:=HM.out.1.ob;have e2:=HM.out.1.ox b (by rw [HFV.out];exact e.symm);omega
    rw [hgr.block b (by rw [World.size_alloc];omega) hne,Below.heap_alloc _ _ _ hbl]
   rw [HM.out.1.blk] at hbk5;have fz:w5.frozen? ⟨b,7,none⟩=false:=frozen_at 7 hbk5;have c57:w5.cell? ⟨b,7,none⟩=some q.tv:=cell_at hbk5 rfl
   have HE:Hid (∃ q',KerMem (w5.setCell ⟨b,7,none⟩ (.slice (some ⟨g5,0,none⟩) (K.trail.length+1) cap)) b (K.exchK n) T q'/\Upd (q.all b) w (w5.setCell ⟨b,7,none⟩ (.slice (some ⟨g5,0,none⟩) (K.trail.length+1) cap))/\Sub (q.all b) w (q'.all b)):=by
    have m:=HM.out.1.growTrail (g5:=g5) (cap:=cap) (l:=n) (by rw [HFV.out];exact hgr) (by rw [HFV.out];exact hat') hown;refine ⟨_,m,?_,fun k hk=>?_⟩
    ·have hbm:b∈q.all b:=KPtr.mem.2 (.inl rfl)
     have u5:Upd (q.all b) w w5:=(HM.out.2.alloc (.cells #[.int .i64 n] 3 (0,0))).grown hgr fun k hk=>.inl (KPtr.mem.2 (.inr (.inr (.inr (.inr (.inr (.inr (.inr (by rw [HFV.out];exact hk)))))))))
     exact u5.setCell (p:=⟨b,7,none⟩) (.inl hbm) _
    ·simp only [KPtr.mem] at hk ⊢
     rcases hk with hk | hk | hk | hk | hk | hk | hk | hk
     ·exact .inl (.inl hk)
     ·exact .inl (.inr (.inl hk))
     ·exact .inl (.inr (.inr (.inl hk)))
     ·exact .inl (.inr (.inr (.inr (.inl hk))))
     ·exact .inl (.inr (.inr (.inr (.inr (.inl hk)))))
     ·exact .inl (.inr (.inr (.inr (.inr (.inr (.inl hk))))))
     ·exact .inl (.inr (.inr (.inr (.inr (.inr (.inr (.inl hk)))))))
     ·simp [Value.ownBlock] at hk;subst hk
      rcases hat' with e | e
      ·exact .inl (.inr (.inr (.inr (.inr (.inr (.inr (.inr (by rw [HFV.out];exact e))))))))
      ·have:=HM.out.2.size;right;omega
   clear hown hgr hat hat' hlt5 hbk5 hb7;go_wp2_with fail;go_ret;obtain ⟨q',m,u,s⟩:=HE.out;exact ⟨0,K.exchK n,T,q',rfl,.inr ⟨rfl,by omega,by omega,by simp⟩,⟨m,HK.out.ti.same rfl rfl,HK.out.ok.exch_bare HB.out (by omega)⟩,u,s⟩
end Go.Proofs.YtpfafhmkbcahhaaGreat
namespace Go.Proofs.YtpfafhmkbcahhaaGreat.Srt
open Go.RowKit Go.Sort
def intOf:Value->Int | .int _ q=>q | _=>0
section
variable {α : Type} [Inhabited α] (lt:α->α->Bool)
end
section
variable {α : Type} [Inhabited α] (enc:α->Value)
end
end Go.Proofs.YtpfafhmkbcahhaaGreat.Srt
namespace Go.Proofs.YtpfafhmkbcahhaaGreat.Srt
open Go.RowKit Go.Sort
end Go.Proofs.YtpfafhmkbcahhaaGreat.Srt
namespace Go.Proofs.YtpfafhmkbcahhaaGreat.Srt
open Go.Sort Go.RowKit
abbrev one (s:Nat):Array Int:=#[(s:Int)]
end Go.Proofs.YtpfafhmkbcahhaaGreat.Srt
namespace Go.Sort
variable {α : Type} [Inhabited α]
def At (enc:α->Value) (w:World) (blk off:Nat) (d:Array α) (wr:World):Prop:=∃ n os,wr=grow (putRow enc (ahead w n) blk off d) os
section
variable {enc:α->Value} {w wr w1:World} {blk off:Nat} {d d' d0:Array α}
end
section
variable (lt:α->α->Bool)
variable {lt} {d:Array α} {a b limit:Nat} {wb wp:Bool}
end
end Go.Sort
namespace Go.Proofs.YtpfafhmkbcahhaaGreat.Srt
open Go.Sort Go.RowKit
end Go.Proofs.YtpfafhmkbcahhaaGreat.Srt
namespace Go.Proofs.YtpfafhmkbcahhaaGreat
section
variable {P:Program} {ops:Array Oper} {Q:Exit->Act->World->Prop} {md:Region.Mode} {S E:World->Prop} {Ks:List Nat}
def noneB (L:Array Bool) (Ks:List Nat):Bool:=Ks.all fun k=>!L.getD k false
theorem noneB_set {L:Array Bool} {i:Nat} (h:i∉Ks):noneB (L.setIfInBounds i true) Ks=noneB L Ks:=by
 unfold noneB
 induction Ks with
 | nil=>rfl
 | cons k t ih =>
  simp only [List.mem_cons,not_or] at h
  simp only [List.all_cons]
  rw [ih h.2,getD_set_ne false h.1]
def wpAnyU (P:Program) (md:Region.Mode) (ops:Array Oper) (Q:Exit->Act->World->Prop) (S E:World->Prop) (Ks:List Nat):Nat->Array Bool->Act->World->Prop
 | 0,L,a,w=>Region.ready md ops L=[]/\Q .normal a w
 | fuel+1,L,a,w =>
  (Region.ready md ops L=[]->Q .normal a w) /\
  ∀ i,i∈Region.ready md ops L->wpOp P ops Q i (fun a' w'=>(S w'/\(noneB (L.setIfInBounds i true) Ks=true->E w'))/\wpAnyU P md ops Q S E Ks fuel (L.setIfInBounds i true) a' w') a w
theorem wpAny_of_until:∀ (fuel:Nat) (L:Array Bool) (a:Act) (w:World),wpAnyU P md ops Q S E Ks fuel L a w->wpAny P md ops Q fuel L a w
 | 0,_,_,_,h=>h
 | fuel+1,_,_,_,h=>⟨h.1,fun i hi=>wpOp_mono (fun a' w' h'=>wpAny_of_until fuel _ a' w' h'.2) (h.2 i hi)⟩
theorem wpAnyU_first {C:World->Prop} {G:Array Bool->Prop} {i:Nat} {oi:Oper} {v:Value} (hi:ops[i]?=some oi) (hsel:∀ (j:Nat) (o:Oper) cs b,ops[j]?=some o->o.op≠.select cs b)
  (hQ:∀ c a w,Q (.panic c) (a.put oi.dst v) w->Q (.panic c) a w) (hik:i∉Ks)
  (hGs:∀ L,i∈Region.ready md ops L->G L->∀ j,j∈Region.ready md ops L->j≠i->G (L.setIfInBounds j true))
  (hCG:∀ L w,G L->S w->(noneB L Ks=true->E w)->C w) :
  ∀ (fuel:Nat) (L:Array Bool) (a:Act) (w:World),
   (∀ j oj,ops[j]?=some oj->j≠i->L.getD j true=false->(∀ e,e∈oj.after->Region.binds md e=true->e.on≠i)->oi.apart ops oj=true) ->
   i∈Region.ready md ops L->YieldsIf P ops C oi v a->S w->(noneB L Ks=true->E w)->G L ->
   wpAnyU P md ops Q S E Ks fuel (L.setIfInBounds i true) (a.put oi.dst v) w->wpAnyU P md ops Q S E Ks (fuel+1) L a w:=by
 intro fuel
 induction fuel with
 | zero =>
  intro L a w _ hr hy hS hE hg H
  refine ⟨fun h=>(by rw [h] at hr;cases hr),fun j hj=>?_⟩
  by_cases hji:j=i
  ·subst hji;exact hy.wpOp hi (hCG L w hg hS hE) ⟨⟨hS,fun hn=>hE (by rw [<- noneB_set hik];exact hn)⟩,H⟩
  ·have:=ready_mono hj hji
   rw [H.1] at this;cases this
 | succ fuel ih =>
  intro L a w hfree hr hy hS hE hg H
  refine ⟨fun h=>(by rw [h] at hr;cases hr),fun j hj=>?_⟩
  by_cases hji:j=i
  ·subst hji;exact hy.wpOp hi (hCG L w hg hS hE) ⟨⟨hS,fun hn=>hE (by rw [<- noneB_set hik];exact hn)⟩,H⟩
  ·have h1:=H.2 j (ready_mono hj hji)
   obtain ⟨hjun,oj,hoj,hall⟩:=mem_ready.1 hj
   have hnot:∀ e,e∈oj.after->Region.binds md e=true->e.on≠i:=fun e he hb heq=>by
    have h1:=hall e he hb;have h0:=(mem_ready.1 hr).1;rw [heq] at h1
    rcases Nat.lt_or_ge i L.size with h' | h'
    ·simp [h'] at h0 h1;rw [h0] at h1;cases h1
    ·simp [Array.getElem?_eq_none h'] at h1
   have h2:=wpOp_putIf hoj (hfree j oj hoj hji hjun hnot) (fun cs b=>hsel i oi cs b hi) (fun cs b=>hsel j oj cs b hoj) hQ hy h1
   have hfree':∀ k ok,ops[k]?=some ok->k≠i->(L.setIfInBounds j true).getD k true=false ->
     (∀ e,e∈ok.after->Region.binds md e=true->e.on≠i)->oi.apart ops ok=true:=fun k ok hk hki hun hno=>by
    refine hfree k ok hk hki ?_ hno
    by_cases hjk:j=k
    ·subst hjk;exact hjun
    ·rw [getD_set_ne true hjk] at hun;exact hun
   refine wpOp_mono (fun a' w' h3=>?_) h2;obtain ⟨hy',⟨hS',hE'⟩,hW⟩:=h3
   have hE2:noneB (L.setIfInBounds j true) Ks=true->E w':=fun hn=>hE' (by rw [Array.setIfInBounds_comm _ _ (Ne.symm hji),noneB_set hik];exact hn)
   refine ⟨⟨hS',hE2⟩,ih (L.setIfInBounds j true) a' w' hfree' (ready_mono hr (Ne.symm hji)) hy' hS' hE2 (hGs L hr hg j hj hji) ?_⟩;rw [Array.setIfInBounds_comm _ _ hji];exact hW
def waitsB (md:Region.Mode) (ops:Array Oper) (Ks:List Nat) (i:Nat):Bool :=
 Ks.all fun k=>(k != i)&&(match ops[k]? with | some o=>o.after.any (fun e=>Region.binds md e&&(e.on == i)) | none=>false)
theorem waitsB_mem {i k:Nat} (h:waitsB md ops Ks i=true) (hk:k∈Ks):k≠i/\∃ o,ops[k]?=some o/\∃ e,e∈o.after/\Region.binds md e=true/\e.on=i:=by
 have h1:=List.all_eq_true.1 h k hk
 simp only [Bool.and_eq_true,bne_iff_ne,ne_eq] at h1
 refine ⟨h1.1,?_⟩;have h2:=h1.2
 cases ho:ops[k]? with
 | none=>rw [ho] at h2;cases h2
 | some o =>
  rw [ho] at h2;obtain ⟨e,he,hb⟩:=Array.any_eq_true'.1 h2
  simp only [Bool.and_eq_true,beq_iff_eq] at hb
  exact ⟨o,rfl,e,he,hb.1,hb.2⟩
theorem wpAnyU_takeS {i:Nat} {oi:Oper} {v:Value} {fuel:Nat} {L:Array Bool} {a:Act} {w:World} (hi:ops[i]?=some oi)
  (hs:Region.noSelect ops=true) (hf:Region.free md ops L i=true) (hr:(Region.ready md ops L).contains i=true) (hik:Ks.contains i=false)
  (hQ:∀ c a w,Q (.panic c) (a.put oi.dst v) w->Q (.panic c) a w) (hy:YieldsIf P ops S oi v a) (hS:S w) (hE:noneB L Ks=true->E w)
  (h:wpAnyU P md ops Q S E Ks fuel (L.setIfInBounds i true) (a.put oi.dst v) w):wpAnyU P md ops Q S E Ks (fuel+1) L a w :=
 wpAnyU_first (C:=S) (G:=fun _=>True) hi (Region.noSelect_spec hs) hQ (fun hm=>by simp [hm] at hik) (fun _ _ _ _ _ _=>trivial) (fun _ _ _ hS _=>hS) fuel L a w (Region.free_spec hi hf) (by simpa using hr) hy hS hE trivial h
theorem wpAnyU_takeE {i:Nat} {oi:Oper} {v:Value} {fuel:Nat} {L:Array Bool} {a:Act} {w:World} (hi:ops[i]?=some oi)
  (hs:Region.noSelect ops=true) (hf:Region.free md ops L i=true) (hr:(Region.ready md ops L).contains i=true) (hik:Ks.contains i=false) (hwt:waitsB md ops Ks i=true) (hn:noneB L Ks=true)
  (hQ:∀ c a w,Q (.panic c) (a.put oi.dst v) w->Q (.panic c) a w) (hy:YieldsIf P ops E oi v a) (hS:S w) (hE:noneB L Ks=true->E w)
  (h:wpAnyU P md ops Q S E Ks fuel (L.setIfInBounds i true) (a.put oi.dst v) w):wpAnyU P md ops Q S E Ks (fuel+1) L a w :=
 wpAnyU_first (C:=E) (G:=fun L=>noneB L Ks=true) hi (Region.noSelect_spec hs) hQ (fun hm=>by simp [hm] at hik) (fun L hri hg j hj hji=>by
  refine (noneB_set fun hjK=>?_).trans hg;obtain ⟨_,o,ho,e,he,hb,heq⟩:=waitsB_mem hwt hjK;obtain ⟨_,o',ho',hall⟩:=mem_ready.1 hj
  rw [ho] at ho';cases ho'
  have h1:=hall e he hb;have h0:=(mem_ready.1 hri).1;rw [heq] at h1
  rcases Nat.lt_or_ge i L.size with h' | h'
  ·simp [h'] at h0 h1;rw [h0] at h1;cases h1
  ·simp [Array.getElem?_eq_none h'] at h1) (fun _ _ hg _ hE=>hE hg) fuel L a w (Region.free_spec hi hf) (by simpa using hr) hy hS hE hn h
def AllReadyU (P:Program) (md:Region.Mode) (ops:Array Oper) (Q:Exit->Act->World->Prop) (S E:World->Prop) (Ks:List Nat) (fuel:Nat) (L:Array Bool) (a:Act) (w:World) (rs:List Nat):Prop :=
 ∀ i,i∈rs->wpOp P ops Q i (fun a' w'=>(S w'/\(noneB (L.setIfInBounds i true) Ks=true->E w'))/\wpAnyU P md ops Q S E Ks fuel (L.setIfInBounds i true) a' w') a w
theorem AllReadyU.nil {fuel:Nat} {L:Array Bool} {a:Act} {w:World}:AllReadyU P md ops Q S E Ks fuel L a w []:=fun _ h=>by cases h
theorem AllReadyU.cons {fuel:Nat} {L:Array Bool} {a:Act} {w:World} {i:Nat} {o:Oper} {rs:List Nat} (ho:ops[i]?=some o)
  (h:∀ K':Act->World->Prop,Shut (∀ a w,(S w/\(noneB (L.setIfInBounds i true) Ks=true->E w))->((S w/\(noneB (L.setIfInBounds i true) Ks=true->E w))->wpAnyU P md ops Q S E Ks fuel (L.setIfInBounds i true) a w)->K' a w)->if Region.wanted o (yielded ops a.tmps)=true then Oper.wp P o a w K' Q else K' (a.put o.dst undef) w)
  (hs:AllReadyU P md ops Q S E Ks fuel L a w rs):AllReadyU P md ops Q S E Ks fuel L a w (i::rs):=fun j hj=>by
 rcases List.mem_cons.1 hj with rfl | hj
 ·exact wpOp_step ho (fun K' hK=>h K' (fun a w hS hW=>hK a w ⟨hS,hW hS⟩))
 ·exact hs j hj
theorem wpAnyU_ready {rs:List Nat} {fuel:Nat} {L:Array Bool} {a:Act} {w:World} (hr:Region.ready md ops L=rs) (hne:rs≠[])
  (h:AllReadyU P md ops Q S E Ks fuel L a w rs):wpAnyU P md ops Q S E Ks (fuel+1) L a w:=⟨fun h0=>absurd (hr ▸ h0) hne,hr ▸ h⟩
theorem wpAnyU_done {L:Array Bool} {a:Act} {w:World} (hr:Region.ready md ops L=[]) (h:Q .normal a w) :
  ∀ fuel,wpAnyU P md ops Q S E Ks fuel L a w
 | 0=>⟨hr,h⟩
 | _+1=>⟨fun _=>h,by rw [hr];simp⟩
theorem wp_region_until {id:Nat} {a:Act} {w:World} (S E:World->Prop) (Ks:List Nat) (hm:P.follows .mixedOrders=true)
  (h:wpAnyU P .any ops Q S E Ks ops.size (Array.replicate ops.size false) a w.drew):(Code.region id ops true).wp P Q a w :=
 wp_region_any hm (wpAny_of_until _ _ _ _ h)
end
theorem noE {b:Bool} {p:Prop} (hb:b=false) (h:b=true):p:=by rw [hb] at h;cases h
end Go.Proofs.YtpfafhmkbcahhaaGreat
