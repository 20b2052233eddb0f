import Derived.Test.YtfkopmhpppeheaaGreatPF11
import Derived.Test.YtfkopmhpppeheaaGreatPF7
import Derived.Test.YtfkopmhpppeheaaGreatPF9
import Derived.Deep.QuietTactic
set_option maxRecDepth 100000
set_option maxHeartbeats 1600000
namespace Go.Proofs.YtfkopmhpppeheaaGreat
open Go.RowKit Go.Maps Go.ChangeMaps Go.WideShapes
structure OpPost (b:Nat) (K0:KV) (q:KPtr) (t:(Nat->Bool)->Bool) (w:World) (e:Ending) (w':World):Prop where
 ex:∃ (r:Nat) (code:Int) (K':KV) (T':List DM) (q':KPtr),e=.returned (.tuple #[.int .u32 r,.int .i64 code])/\OpR K0 t r code K'/\KerIn w' b K' T' q'/\Upd (q.all b) w w'/\Sub (q.all b) w (q'.all b)
theorem OpPost.of_run {b wb f g h:Nat} {K0:KV} {q:KPtr} {L:Bool->Bool->Bool->Bool} {lvv:Value} {w w1 w':World} {e:Ending} (hk:K0.Ok) (hA:AskQ K0 f g h) (hu:Upd [] w w1) (hF:∀ k,k∈workF wb lvv (.slice none 0 0)->w.heap.size<=k)
  (R:RunPost b K0 q L f g h (wkF wb b q lvv (.slice none 0 0)) w1 e w'):OpPost b K0 q (K0.fun3 L f g h) w e w':=by
 obtain ⟨r,code,K1,M,K',T',q',rfl,S,h1,hu1,X,hk',hu',hs'⟩:=R.ex
 have hin:∀ k,k∈wkF wb b q lvv (.slice none 0 0)->k∈q.all b\/w.heap.size<=k:=fun k hk=>by
  rcases List.mem_append.1 hk with h | h
  ·exact .inl h
  ·exact .inr (hF k h)
 have hsz:=hu.size;refine ⟨_,_,K',T',q',rfl,op_of hk h1 hk'.ok hA S X,hk',(hu.mono (by simp):Upd (q.all b) w w1).then hu' hin,fun k hk=>?_⟩
 rcases hs' k hk with h | h
 ·exact hin k h
 ·right;omega
theorem binary_live (b op f g:Nat) (K:KV) (T:List DM) (q:KPtr) (w:World) (h:KerIn w b K T q) (ho:op<=15) (hf:K.A.tk f=true) (hg:K.A.tk g=true) :
  Calls Tryz.prog 92 #[.pointer (some ⟨b,0,none⟩),.int .u8 op,.int .u32 f,.int .u32 g] w fun e w'=>OpPost b K q (K.fun3 (fun x y _=>opB op x y) f g 0) w e w':=by
 have hmf:∀ (fn:Fn) (first cap:Array Value) (w:World),(Instr.makeFunc fn first cap).run Tryz.prog w=.ok (.func fn first cap) w:=fun _ _ _ _=>rfl
 have hob:decide ((15:Int)<(op:Int))=false:=by simp;omega
 have hob2:decide (15<op)=false:=by simp;omega
 have HK:=Lib.hid h;have HA:Hid (AskQ K f g 0):=⟨hf,hg,h.ok.wf.ok.tk01.1⟩;have HBX:Hid ((w.alloc (.cells #[.int .u8 op] 5 (0,0))).heap[w.heap.size]?=some (.cells #[.int .u8 op] 5 (0,0))):=heap_alloc_new w _;have x0:=cell_at (j:=0) HBX.out rfl
 have HROW:Hid (((w.alloc (.cells #[.int .u8 op] 5 (0,0))).alloc (.cells #[.int .u32 f,.int .u32 g] 77 (0,0))).ownsRow 0 77 1 (.slice (some ⟨w.heap.size+1,0,none⟩) 2 2) [f,g].length (flatRefs [f,g])):=by
  have:=World.ownsRow_lit (base:=0) (e:=77) (size:=1) (w.alloc (.cells #[.int .u8 op] 5 (0,0))) #[.int .u32 f,.int .u32 g] 2 (Nat.zero_le _) (by unfold maxLen;omega) rfl;rw [World.size_alloc] at this;exact this
 have HU:Hid (Upd [] w ((w.alloc (.cells #[.int .u8 op] 5 (0,0))).alloc (.cells #[.int .u32 f,.int .u32 g] 77 (0,0)))):=((Upd.refl [] w).alloc _).alloc _
 have HL:Hid (∀ r,r∈[f,g]->K.A.tk r=true):=fun r hr=>by
  simp only [List.mem_cons,List.not_mem_nil,or_false] at hr
  rcases hr with rfl | rfl
  ·exact hf
  ·exact hg
 clear h hf hg
 go_enter Tryz.func92,Tryz.ntmps92
 go_wp2_with fail;refine (begin_ok b K T q _ [f,g] _ (HK.out.upd HU.out (by simp)) HROW.out HL.out (by simp)).mono ?_;rintro e w1 ⟨wb,lvv,rfl,hW,hu,hF⟩;have hsz:=HU.out.size;have HB1:Hid (w1.heap[w.heap.size]?=some (.cells #[.int .u8 op] 5 (0,0))):=(hu.block _ (by rw [World.size_alloc,World.size_alloc];omega) (by simp)).trans ((heap_alloc_old _ _ (heap_lt HBX.out)).trans HBX.out);have HW:=Lib.hid (And.intro hW (And.intro (HU.out.trans hu) (fun k hk=>Nat.le_trans hsz (hF k hk):∀ k,k∈workF wb lvv (.slice none 0 0)->w.heap.size<=k)))
 have HLF:Hid (LeafOk w1 165 #[.pointer (some ⟨w.heap.size,0,none⟩)] [w.heap.size] (fun x y _=>opB op x y)):=fun w' hw' x y z=>by
  have e:=(hw' w.heap.size (by simp)).trans HB1.out;exact leafB_spec op w.heap.size x y z w' ho (cell_at e rfl)
 have HDJ:Hid (∀ k,k∈wkF wb b q lvv (.slice none 0 0)->k∉[w.heap.size]):=fun k hk hm=>by
  simp only [List.mem_singleton] at hm
  subst hm
  rcases List.mem_append.1 hk with h1 | h1
  ·have:=HK.out.mem.lt _ h1;omega
  ·have:=hF _ h1
   rw [World.size_alloc,World.size_alloc] at this;omega
 clear hW hu hF x0;go_wp2_with fail;refine (wrun_spec wb b 165 f g 0 #[.pointer (some ⟨w.heap.size,0,none⟩)] [w.heap.size] (fun x y _=>opB op x y) K T q lvv w1 HW.out.1 HA.out HLF.out (fun k hk=>by simp only [List.mem_singleton] at hk;subst hk;exact heap_lt HB1.out) HDJ.out enters_B).mono ?_;rintro e w2 hR;obtain ⟨r,code,K',T',q',rfl,hE⟩:=(OpPost.of_run HK.out.ok HA.out HW.out.2.1 HW.out.2.2 hR).ex;have HE:=Lib.hid hE;clear hR hE;go_wp2_with fail;go_ret2;exact ⟨r,code,K',T',q',rfl,HE.out⟩
end Go.Proofs.YtfkopmhpppeheaaGreat
namespace Go.Proofs.YtfkopmhpppeheaaGreat
def KV.lives (K:KV):List Nat:=(List.range K.A.list.length).filter fun r=>K.A.tk r
theorem KV.mem_lives {K:KV} {x:Nat}:x∈K.lives↔K.A.tk x=true:=by
 simp only [KV.lives,List.mem_filter,List.mem_range]
 exact ⟨fun h=>h.2,fun h=>⟨ArenaV.tk_lt h,h⟩⟩
theorem KV.lives_nodup (K:KV):K.lives.Nodup:=List.Pairwise.filter _ List.nodup_range
theorem KV.lives_len {K:KV} {P:List Nat} (h:K.Wf P):K.lives.length=K.A.used:=by
 have hus:=h.ok.us
 have e1:K.A.free.length=((List.range K.A.list.length).filter fun r=>!(K.A.tk r)).length:=by
  have hfr:∀ r,r∈K.A.free↔r∈(List.range K.A.list.length).filter fun r=>!(K.A.tk r):=by
   intro r
   rw [h.ok.fr r,List.mem_filter,List.mem_range];constructor
   ·rintro ⟨p,hp,hpt⟩
    refine ⟨(List.getElem?_eq_some_iff.1 hp).1,?_⟩
    simp [ArenaV.tk,hp,hpt]
   ·rintro ⟨hl,ht⟩
    refine ⟨K.A.list[r],List.getElem?_eq_getElem hl,?_⟩
    simpa [ArenaV.tk,List.getElem?_eq_getElem hl] using ht
  refine Nat.le_antisymm ?_ ?_
  ·exact List.Nodup.length_le_of_subset h.ok.nd fun r hr=>(hfr r).1 hr
  ·exact List.Nodup.length_le_of_subset (List.Pairwise.filter _ List.nodup_range) fun r hr=>(hfr r).2 hr
 have e2:(List.range K.A.list.length).length=K.lives.length+((List.range K.A.list.length).filter fun r=>!(K.A.tk r)).length:=by
  rw [KV.lives,<- List.countP_eq_length_filter,<- List.countP_eq_length_filter];have hh:=List.length_eq_countP_add_countP (fun r=>K.A.tk r) (l:=List.range K.A.list.length);rw [hh]
  congr 2
  funext a
  cases K.A.tk a <;> rfl
 rw [List.length_range] at e2;omega
theorem KV.used_le {K:KV} {P:List Nat} (h:K.Wf P) {l:List Nat} (hl:∀ x,K.A.tk x=true->x∈l):K.A.used<=l.length:=by
 rw [<- K.lives_len h]
 exact List.Nodup.length_le_of_subset K.lives_nodup fun x hx=>hl x (KV.mem_lives.1 hx)
theorem KV.used_ge {K:KV} {P:List Nat} (h:K.Wf P) {l:List Nat} (hn:l.Nodup) (hl:∀ x,x∈l->K.A.tk x=true):l.length<=K.A.used:=by
 rw [<- K.lives_len h]
 exact List.Nodup.length_le_of_subset hn fun x hx=>KV.mem_lives.2 (hl x hx)
theorem KV.sub_live {K:KV} (hk:K.Ok) (l:Nat) (a:Nat->Bool):∀ (n r:Nat),K.vars-K.dep r<=n->K.A.tk r=true->∃ x,K.A.tk x=true/\∀ y,K.den x y=K.den r (K.mix l a y)
 | n,r,hn,ht=>by
  by_cases hl:l<=K.dep r
  ·refine ⟨r,ht,fun y=>KV.den_same hk.wf hk.ord _ r _ _ ht (Nat.le_refl _) fun v hv hd=>?_⟩
   simp only [KV.mix]
   rw [if_neg (by omega)]
  ·by_cases h2:2<=r
   ·obtain ⟨p,v,hp,hpt,hv,hvl,h3,h4,hd⟩:=hk.wf.node_at h2 ht
    have hb:=hk.ord.below hk.wf h2 hp hpt;have hdl:=hk.wf.dep_lt hk.ord h2 ht;have hlo:=hk.wf.dep_le hk.ord h3;have hhi:=hk.wf.dep_le hk.ord h4
    match n,hn with
    | 0,hn=>omega
    | n+1,hn =>
     have em:∀ y,K.mix l a y v=a v:=fun y=>by simp only [KV.mix];rw [if_pos ⟨hvl,by omega⟩]
     have e:∀ y,K.den r (K.mix l a y)=if a v then K.den p.hi (K.mix l a y) else K.den p.lo (K.mix l a y):=fun y=>by
      rw [KV.den_node hk.wf hk.ord h2 hp hpt,show p.var.toNat=v by omega,em]
     cases ha:a v with
     | true =>
      obtain ⟨x,tx,hx⟩:=KV.sub_live hk l a n p.hi (by omega) h4;exact ⟨x,tx,fun y=>by rw [hx,e,ha];simp⟩
     | false =>
      obtain ⟨x,tx,hx⟩:=KV.sub_live hk l a n p.lo (by omega) h3;exact ⟨x,tx,fun y=>by rw [hx,e,ha];simp⟩
   ·refine ⟨r,ht,fun y=>?_⟩
    rw [K.den_const (by omega),K.den_const (by omega)]
end Go.Proofs.YtfkopmhpppeheaaGreat
namespace Go.Proofs.YtfkopmhpppeheaaGreat
open Go.RowKit Go.Maps Go.ChangeMaps Go.WideShapes
theorem refKeyed:Keyed Tryz.prog 77:=int_keyed Tryz.underlying77
theorem zeroInt (w:World):(zeroValue 3).run Tryz.prog w=.ok (.int .i64 0) w:=by kernel_rfl
structure SeenOk (V:List Nat) (D:DM):Prop where
 im:IsMap D
 has:∀ r:Nat,r<=4294967295->(Maps.has D (.int .u32 r)=true↔r∈V)
 at_:∀ r:Nat,r<=4294967295->Maps.has D (.int .u32 r)=true->∀ z,D.atKey (.int .u32 r) z=.lit (.int .i64 1)
 dom:∀ k,Maps.has D k=true->∃ r:Nat,k=.int .u32 r/\r<1048576
theorem SeenOk.nil:SeenOk [] (.map []):=⟨isMap_empty,fun r _=>by simp [Maps.has],fun r _ h=>by simp [Maps.has] at h,fun k h=>by simp [Maps.has] at h⟩
theorem SeenOk.put {V:List Nat} {D:DM} {r:Nat} (h:SeenOk V D) (hr:r<1048576):SeenOk (V++[r]) (D.put (.int .u32 r) (.lit (.int .i64 1))):=by
 have hl:WideAt.IsKeyLit (.int .u32 (r:Int)):=trivial
 have inj:∀ x:Nat,x≠r->(Lit.int .u32 (x:Int))≠.int .u32 (r:Int):=fun x hx e=>hx (by simp at e;omega)
 refine ⟨h.im.put _ _,fun x hx=>?_,fun x hx hh z=>?_,fun k hk=>?_⟩
 ·by_cases e:x=r
  ·subst e;simp [has_put_same h.im hl]
  ·rw [has_put_other (inj x e),h.has x hx];simp [e]
 ·by_cases e:x=r
  ·subst e;exact atKey_put_same h.im hl _ z
  ·rw [has_put_other (inj x e)] at hh
   rw [atKey_put_other (inj x e)];exact h.at_ x hx hh z
 ·by_cases e:k=.int .u32 (r:Int)
  ·exact ⟨r,e,hr⟩
  ·rw [has_put_other e] at hk;exact h.dom k hk
theorem seen_size {V:List Nat} {D:DM} (h:SeenOk V D) (hc:Maps.Canon D) (ht:Tidy D):Maps.size D<maxLen:=by
 have:=size_le_keys hc (ks:=(List.range 1048576).map fun (r:Nat)=>Lit.int .u32 (r:Int)) (fun k hk=>by
  obtain ⟨r,rfl,hr⟩:=h.dom k hk
  exact List.mem_map.2 ⟨r,List.mem_range.2 hr,rfl⟩) ht
 simp only [List.length_map,List.length_range] at this
 unfold maxLen;omega
inductive KV.Under (K:KV) (r:Nat):Nat->Prop
 | refl (h:2<=r):K.Under r r
 | lo {x:Nat} {p:PlaceV} (h:K.Under r x) (hp:K.A.list[x]?=some p) (h2:2<=p.lo):K.Under r p.lo
 | hi {x:Nat} {p:PlaceV} (h:K.Under r x) (hp:K.A.list[x]?=some p) (h2:2<=p.hi):K.Under r p.hi
theorem KV.Under.trans {K:KV} {r s x:Nat} (h:K.Under r s) (k:K.Under s x):K.Under r x:=by
 induction k with
 | refl _=>exact h
 | lo _ hp h2 ih=>exact .lo ih hp h2
 | hi _ hp h2 ih=>exact .hi ih hp h2
structure WalkN (K:KV) (V:List Nat) (r:Nat) (N:List Nat):Prop where
 nd:(V++N).Nodup
 has:2<=r->r∈V++N
 two:∀ x,x∈N->2<=x/\K.A.tk x=true
 under:∀ x,x∈N->K.Under r x
 kids:∀ (x:Nat) (p:PlaceV),x∈N->K.A.list[x]?=some p->(p.lo<2\/p.lo∈V++N)/\(p.hi<2\/p.hi∈V++N)
theorem WalkN.none {K:KV} {V:List Nat} {r:Nat} (hv:V.Nodup) (h:r < 2∨r∈V):WalkN K V r [] :=
  ⟨by simpa using hv, fun h2 => by rcases h with h | h; · omega
                                   · simpa using h,by simp,by simp,by simp⟩
theorem WalkN.node {K:KV} {V N0 N1:List Nat} {r:Nat} {p:PlaceV} (h2:2<=r) (ht:K.A.tk r=true) (hp:K.A.list[r]?=some p) (W0:WalkN K (V++[r]) p.lo N0) (W1:WalkN K (V++[r]++N0) p.hi N1) :
  WalkN K V r (r::(N0++N1)):=by
 have e:V++r::(N0++N1)=V++[r]++N0++N1:=by simp
 have in0:∀ x,x∈V++[r]++N0->x∈V++r::(N0++N1):=fun x hx=>by rw [e];exact List.mem_append.2 (.inl hx)
 have in1:∀ x,x∈V++[r]++N0++N1->x∈V++r::(N0++N1):=fun x hx=>by rw [e];exact hx
 refine ⟨by rw [e];exact W1.nd,fun _=>by simp,fun x hx=>?_,fun x hx=>?_,fun x c hx hc=>?_⟩
 ·rcases List.mem_cons.1 hx with rfl | hx
  ·exact ⟨h2,ht⟩
  ·rcases List.mem_append.1 hx with hx | hx
   ·exact W0.two x hx
   ·exact W1.two x hx
 ·have ulo:2<=p.lo->K.Under r p.lo:=fun h=>.lo (.refl h2) hp h
  have uhi:2<=p.hi->K.Under r p.hi:=fun h=>.hi (.refl h2) hp h
  have start:∀ {s x:Nat},K.Under s x->2<=s:=by
   intro s x h
   induction h with
   | refl h=>exact h
   | lo _ _ _ ih=>exact ih
   | hi _ _ _ ih=>exact ih
  rcases List.mem_cons.1 hx with rfl | hx
  ·exact .refl h2
  ·rcases List.mem_append.1 hx with hx | hx
   ·have:=W0.under x hx
    exact (ulo (start this)).trans this
   ·have:=W1.under x hx
    exact (uhi (start this)).trans this
 ·rcases List.mem_cons.1 hx with rfl | hx
  ·rw [hp] at hc;cases hc
   refine ⟨?_,?_⟩
   ·by_cases h:p.lo<2
    ·exact .inl h
    ·exact .inr (in0 _ (W0.has (by omega)))
   ·by_cases h:p.hi<2
    ·exact .inl h
    ·exact .inr (in1 _ (W1.has (by omega)))
  ·rcases List.mem_append.1 hx with hx | hx
   ·have:=W0.kids x c hx hc
    exact ⟨this.1.imp_right (in0 _),this.2.imp_right (in0 _)⟩
   ·have:=W1.kids x c hx hc
    exact ⟨this.1.imp_right (in1 _),this.2.imp_right (in1 _)⟩
theorem own_emptyR {W:World} {mb:Nat} (h:W.heap[mb]?=some (.map #[] 0)):W.ownsMap Tryz.prog 77 (plainElem (H:=Unit) Tryz.prog 3) mb 0 (.map []):=by
 obtain ⟨es,clock,q1,q2,q3,q4⟩:=World.ownsMap_made W Tryz.prog 77 (plainElem (H:=Unit) Tryz.prog 3);rw [heap_alloc_new] at q1;cases q1;exact ⟨#[],0,h,q2,Nat.zero_le _,rfl⟩
inductive WalkL (K:KV):List Nat->List Nat->List Nat->Prop
 | nil (V:List Nat):WalkL K V [] []
 | cons {V N N':List Nat} {r:Nat} {rs:List Nat} (h:WalkN K V r N) (t:WalkL K (V++N) rs N'):WalkL K V (r::rs) (N++N')
theorem WalkL.snoc {K:KV} {V rs N:List Nat} (h:WalkL K V rs N):∀ {r:Nat} {N1:List Nat},WalkN K (V++N) r N1->WalkL K V (rs++[r]) (N++N1):=by
 induction h with
 | nil V=>intro r N1 h1;have:=WalkL.cons (by simpa using h1) (WalkL.nil (K:=K) (V++N1));simpa using this
 | cons h t ih =>
  intro r N1 h1
  have:=ih (by simpa [List.append_assoc] using h1);have:=WalkL.cons h this
  simpa [List.append_assoc] using this
theorem WalkL.nodup {K:KV} {V rs N:List Nat} (h:WalkL K V rs N):V.Nodup->(V++N).Nodup:=by
 induction h with
 | nil V=>intro h;simpa using h
 | cons h t ih=>intro _;have:=ih h.nd;simpa [List.append_assoc] using this
theorem Tryz.infoU64:(Tryz.prog.info? 90).map (fun i=>(i.zero,i.size,i.bytes))=some (some (.int .u64 0),1,8):=by kernel_rfl
def flatU (l:List Int):List Value:=l.map fun n=>Value.int .u64 n
theorem madeU (n:Nat):(madeCells #[Value.int .u64 0] n).toList=List.replicate n (Value.int .u64 0):=by
 apply List.ext_getElem?
 intro i
 by_cases hi:i<n
 ·simp [madeCells,hi,Nat.mod_one]
 ·simp [madeCells,hi]
def U64 (x:Int):Prop:=0<=x/\x<18446744073709551616
theorem wrap_u64 (n:Int):U64 (IntKind.u64.wrap n):=by
 have e:IntKind.u64.wrap n=n % 18446744073709551616:=rfl
 rw [e];unfold U64;omega
theorem bits_u64 (op:BinOp) (x y:Int):U64 (bits op IntKind.u64 x y):=wrap_u64 _
def nb (x:Int) (i:Nat):Bool:=x.toNat.testBit i
theorem toNat_bv {x:Int} (h:U64 x):(BitVec.ofInt 64 x).toNat=x.toNat:=by
 unfold U64 at h;rw [BitVec.toNat_ofInt]
 have:x % (2 ^ 64:Nat)=x:=by omega
 rw [this]
theorem nb_bv {x:Int} (h:U64 x) (i:Nat):nb x i=(BitVec.ofInt 64 x).getLsbD i:=by
 unfold nb;rw [<- toNat_bv h,BitVec.testBit_toNat]
theorem nb_of_bv (B:BitVec 64) (i:Nat):nb ((B.toNat:Int) % 18446744073709551616) i=B.getLsbD i:=by
 have h:=B.isLt
 have:((B.toNat:Int) % 18446744073709551616).toNat=B.toNat:=by omega
 unfold nb;rw [this,BitVec.testBit_toNat]
theorem nb_or {x y:Int} (hx:U64 x) (hy:U64 y) (i:Nat):nb (bits BinOp.or IntKind.u64 x y) i=(nb x i||nb y i):=by
 rw [nb_bv hx,nb_bv hy,<- BitVec.getLsbD_or];exact nb_of_bv (BitVec.ofInt 64 x ||| BitVec.ofInt 64 y) i
theorem nb_and {x y:Int} (hx:U64 x) (hy:U64 y) (i:Nat):nb (bits BinOp.and IntKind.u64 x y) i=(nb x i&&nb y i):=by
 rw [nb_bv hx,nb_bv hy,<- BitVec.getLsbD_and];exact nb_of_bv (BitVec.ofInt 64 x &&& BitVec.ofInt 64 y) i
theorem nb_andNot {x y:Int} (hx:U64 x) (hy:U64 y) {i:Nat} (hi:i<64):nb (bits BinOp.andNot IntKind.u64 x y) i=(nb x i&&!nb y i):=by
 rw [nb_bv hx,nb_bv hy];have e:nb (bits BinOp.andNot IntKind.u64 x y) i=(BitVec.ofInt 64 x &&& ~~~BitVec.ofInt 64 y).getLsbD i:=nb_of_bv _ i;rw [e,BitVec.getLsbD_and,BitVec.getLsbD_not,decide_eq_true hi,Bool.true_and]
theorem nb_zero (i:Nat):nb 0 i=false:=by simp [nb]
theorem nb_ext {x y:Int} (hx:U64 x) (hy:U64 y) (h:∀ i,i<64->nb x i=nb y i):x=y:=by
 have:x.toNat=y.toNat:=by
  apply Nat.eq_of_testBit_eq
  intro i
  by_cases hi:i<64
  ·exact h i hi
  ·have l:∀ z:Int,U64 z->z.toNat.testBit i=false:=fun z hz=>by
    apply Nat.testBit_lt_two_pow
    have h1:(2:Nat) ^ 64<=2 ^ i:=Nat.pow_le_pow_right (by omega) (by omega)
    unfold U64 at hz;omega
   rw [l x hx,l y hy]
 unfold U64 at hx hy;omega
theorem KV.Under.node {K:KV} {P:List Nat} (hw:K.Wf P) {r x:Nat} (ht:K.A.tk r=true) (h:K.Under r x):2<=x/\K.A.tk x=true:=by
 induction h with
 | refl h=>exact ⟨h,ht⟩
 | lo _ hp h2 ih =>
  obtain ⟨p',hp',hpt'⟩:=ArenaV.tk_iff.1 ih.2
  rw [hp] at hp';cases hp'
  exact ⟨h2,(hw.cl _ _ ih.1 hp hpt').1⟩
 | hi _ hp h2 ih =>
  obtain ⟨p',hp',hpt'⟩:=ArenaV.tk_iff.1 ih.2
  rw [hp] at hp';cases hp'
  exact ⟨h2,(hw.cl _ _ ih.1 hp hpt').2⟩
theorem KV.Ok.kid_den {K:KV} (hk:K.Ok) {x:Nat} {p:PlaceV} (h2:2<=x) (hp:K.A.list[x]?=some p) (hpt:p.taken=true) (b:Bool) (y:Nat->Bool):K.den (if b then p.hi else p.lo) y=K.den x (upd y p.var.toNat b):=by
 cases b with
 | true=>exact (KV.den_hi hk.wf hk.ord h2 hp hpt y).symm
 | false=>exact (KV.den_lo hk.wf hk.ord h2 hp hpt y).symm
theorem KV.Ok.mix_kid {K:KV} (hk:K.Ok) {r x:Nat} {p:PlaceV} (h2:2<=x) (hp:K.A.list[x]?=some p) (hpt:p.taken=true) (b:Bool) {a:Nat->Bool} (ha:∀ y,K.den x y=K.den r (K.mix (K.dep x) a y)) :
  ∃ a',∀ y,K.den (if b then p.hi else p.lo) y=K.den r (K.mix (K.dep (if b then p.hi else p.lo)) a' y):=by
 have hvr:=hk.wf.vr x p h2 hp hpt;have hb:=hk.ord.below hk.wf h2 hp hpt;have hcl:=hk.wf.cl x p h2 hp hpt
 have hdx:K.dep x=K.lev p.var.toNat:=by simp [KV.dep,hp,hvr.1]
 have hvl:p.var.toNat<K.vars:=by omega
 generalize hc:(if b then p.hi else p.lo)=c
 have htc:K.A.tk c=true:=by
  subst hc;cases b
  ·exact hcl.1
  ·exact hcl.2
 have hdc:K.dep x<K.dep c:=by
  subst hc;cases b
  ·exact hb.1
  ·exact hb.2
 refine ⟨upd a p.var.toNat b,fun y=>?_⟩
 have e1:K.den c y=K.den c (K.mix (K.dep c) (upd a p.var.toNat b) y):=KV.den_same hk.wf hk.ord _ c _ _ htc (Nat.le_refl _) fun u hu hd=>by
  simp only [KV.mix];rw [if_neg (by omega)]
 rw [e1,<- hc,hk.kid_den h2 hp hpt,ha,hc]
 congr 1
 funext u
 simp only [KV.mix,upd]
 by_cases hu:u<K.vars
 ·by_cases h3:u=p.var.toNat
  ·subst h3
   simp only [hu,true_and,if_true]
   rw [if_neg (by omega),if_pos (by omega)]
  ·simp only [hu,true_and,h3,if_false]
   by_cases h4:K.lev u<K.dep x
   ·rw [if_pos h4,if_pos (by omega)]
   ·rw [if_neg h4]
 ·have h3:u≠p.var.toNat:=by omega
  simp [hu,h3]
theorem KV.Ok.mix_under {K:KV} (hk:K.Ok) {r x:Nat} (ht:K.A.tk r=true) (h:K.Under r x):∃ a,∀ y,K.den x y=K.den r (K.mix (K.dep x) a y):=by
 induction h with
 | refl h=>exact ⟨fun _=>false,fun y=>KV.den_same hk.wf hk.ord _ r _ _ ht (Nat.le_refl _) fun u hu hd=>by
   simp only [KV.mix];rw [if_neg (by omega)]⟩
 | lo h hp h2 ih =>
  obtain ⟨a,ha⟩:=ih;have hn:=h.node hk.wf ht;obtain ⟨p',hp',hpt'⟩:=ArenaV.tk_iff.1 hn.2
  rw [hp] at hp';cases hp'
  exact hk.mix_kid hn.1 hp hpt' false ha
 | hi h hp h2 ih =>
  obtain ⟨a,ha⟩:=ih;have hn:=h.node hk.wf ht;obtain ⟨p',hp',hpt'⟩:=ArenaV.tk_iff.1 hn.2
  rw [hp] at hp';cases hp'
  exact hk.mix_kid hn.1 hp hpt' true ha
def Hangs (t:(Nat->Bool)->Bool) (v:Nat):Prop:=∃ y,t (upd y v true)≠t (upd y v false)
end Go.Proofs.YtfkopmhpppeheaaGreat
namespace Go.Proofs.YtfkopmhpppeheaaGreat
structure TV where
 n:Nat
 ws:List Int
deriving DecidableEq
def wordsN (n:Nat):Nat:=if n<=6 then 1 else 2 ^ (n-6)
structure TV.Ok (t:TV):Prop where
 n16:t.n<=16
 len:t.ws.length=wordsN t.n
 u:∀ x,x∈t.ws->U64 x
 low:t.n<6->∀ x,x∈t.ws->∀ i,2 ^ t.n<=i->nb x i=false
def TV.bit (t:TV) (x:Nat):Bool:=nb (t.ws.getD (x/64) 0) (x % 64)
theorem nb_high {x:Int} (h:U64 x) {i:Nat} (hi:64<=i):nb x i=false:=by
 apply Nat.testBit_lt_two_pow
 have h1:(2:Nat) ^ 64<=2 ^ i:=Nat.pow_le_pow_right (by omega) hi
 unfold U64 at h;omega
theorem wordsN_pos (n : Nat) : 0 < wordsN n := by unfold wordsN; split; · omega
                                                  · exact Nat.two_pow_pos _
theorem wordsN_mul {n:Nat} (h:6<=n):wordsN n*64=2 ^ n:=by
 unfold wordsN;split
 ·obtain rfl:n=6:=by omega
  rfl
 ·have:n=(n-6)+6:=by omega
  rw [this,Nat.pow_add];simp
theorem TV.Ok.word {t:TV} (h:t.Ok) {i:Nat} (hi:i<wordsN t.n):U64 (t.ws.getD i 0)/\t.ws.getD i 0∈t.ws/\t.ws[i]?=some (t.ws.getD i 0):=by
 have hl:i<t.ws.length:=by rw [h.len];exact hi
 have e:t.ws[i]?=some (t.ws.getD i 0):=by rw [List.getD_eq_getElem?_getD,List.getElem?_eq_getElem hl];rfl
 have hm:=List.mem_of_getElem? e;exact ⟨h.u _ hm,hm,e⟩
theorem div64_lt {n x:Nat} (hx:x<2 ^ n):x/64<wordsN n:=by
 by_cases h:6<=n
 ·have:=wordsN_mul h;omega
 ·have:(2:Nat) ^ n<=2 ^ 6:=Nat.pow_le_pow_right (by omega) (by omega)
  unfold wordsN;rw [if_pos (by omega)];omega
theorem TV.ext {t u:TV} (ht:t.Ok) (hu:u.Ok) (hn:t.n=u.n) (h:∀ x,x<2 ^ t.n->t.bit x=u.bit x):t=u:=by
 obtain ⟨n,ws⟩:=t;obtain ⟨m,vs⟩:=u
 simp only at hn;subst hn
 congr 1
 apply List.ext_getElem?
 intro i
 by_cases hi:i<wordsN n
 ·obtain ⟨a1,a2,a3⟩:=ht.word (i:=i) hi
  obtain ⟨b1,b2,b3⟩:=hu.word (i:=i) hi
  show ws[i]?=vs[i]?
  have a3':ws[i]?=some (ws.getD i 0):=a3;have b3':vs[i]?=some (vs.getD i 0):=b3;rw [a3',b3']
  congr 1
  refine nb_ext a1 b1 fun j hj=>?_
  by_cases h6:6<=n
  ·have hw:=wordsN_mul h6
   have:=h (64*i+j) (by show 64*i+j<2 ^ n;omega);unfold TV.bit at this;rw [show (64*i+j)/64=i by omega,show (64*i+j) % 64=j by omega] at this;exact this
  ·have hi0:i=0:=by unfold wordsN at hi;rw [if_pos (by omega)] at hi;omega
   subst hi0
   by_cases hj2:j<2 ^ n
   ·have:=h j hj2
    unfold TV.bit at this;rw [show j/64=0 by omega,show j % 64=j by omega] at this;exact this
   ·rw [ht.low (by simpa using h6) _ a2 j (by simpa using hj2),hu.low (by simpa using h6) _ b2 j (by simpa using hj2)]
 ·have e1:=ht.len
  have e2:=hu.len
  simp only at e1 e2
  rw [List.getElem?_eq_none (by omega),List.getElem?_eq_none (by omega)]
def idx:Nat->(Nat->Bool)->Nat
 | 0,_=>0
 | n+1,y=>idx n y+if y n then 2 ^ n else 0
theorem idx_lt:∀ (n:Nat) (y:Nat->Bool),idx n y<2 ^ n
 | 0,_=>by simp [idx]
 | n+1,y=>by
  have:=idx_lt n y
  have e:(2:Nat) ^ (n+1)=2 ^ n+2 ^ n:=by rw [Nat.pow_succ];omega
  unfold idx;split <;> omega
theorem idx_bit:∀ (n:Nat) (y:Nat->Bool) (v:Nat),(idx n y).testBit v=(decide (v<n)&&y v)
 | 0,y,v=>by simp [idx]
 | n+1,y,v=>by
  have hl:=idx_lt n y;have ih:=idx_bit n y v;unfold idx
  by_cases hy:y n=true
  ·rw [if_pos hy,Nat.add_comm]
   by_cases hv:v=n
   ·subst hv
    rw [Nat.testBit_two_pow_add_eq,Nat.testBit_lt_two_pow hl]
    simp [hy]
   ·by_cases hvn:v<n
    ·rw [Nat.testBit_two_pow_add_gt hvn,ih]
     simp [hvn,show v<n+1 by omega]
    ·have h2:2 ^ n+idx n y<2 ^ v:=by
      have e:(2:Nat) ^ (n+1)=2 ^ n+2 ^ n:=by rw [Nat.pow_succ];omega
      have:(2:Nat) ^ (n+1)<=2 ^ v:=Nat.pow_le_pow_right (by omega) (by omega);omega
     rw [Nat.testBit_lt_two_pow h2]
     simp [show ¬ v<n+1 by omega]
  ·rw [if_neg hy,Nat.add_zero,ih]
   by_cases hv:v=n
   ·subst hv;simp [hy]
   ·have:(v<n)↔(v<n+1):=by omega
    simp [this]
theorem idx_of {n x:Nat} (hx:x<2 ^ n):idx n (fun v=>x.testBit v)=x:=by
 apply Nat.eq_of_testBit_eq
 intro v
 rw [idx_bit]
 by_cases hv:v<n
 ·simp [hv]
 ·have:x<2 ^ v:=Nat.lt_of_lt_of_le hx (Nat.pow_le_pow_right (by omega) (by omega))
  rw [Nat.testBit_lt_two_pow this];simp [hv]
def setb (x v:Nat) (b:Bool):Nat:=if x.testBit v=b then x else if b then x+2 ^ v else x-2 ^ v
theorem tb_add {x v:Nat} (h:x.testBit v=false) (u:Nat):(x+2 ^ v).testBit u=if u=v then true else x.testBit u:=by
 by_cases hu:u=v
 ·subst hu;rw [if_pos rfl,Nat.add_comm,Nat.testBit_two_pow_add_eq,h];rfl
 ·rw [if_neg hu]
  have e:x+2 ^ v=x ||| 2 ^ v:=by
   have hd:=Nat.div_add_mod x (2 ^ (v+1))
   have hm:x % 2 ^ (v+1)<2 ^ v:=by
    have h1:x % 2 ^ (v+1)<2 ^ (v+1):=Nat.mod_lt _ (Nat.two_pow_pos _)
    have h2:(x % 2 ^ (v+1)).testBit v=false:=by rw [Nat.testBit_mod_two_pow,h];simp
    by_cases hge:2 ^ v<=x % 2 ^ (v+1)
    ·exfalso
     have e2:(2:Nat) ^ (v+1)=2 ^ v+2 ^ v:=by rw [Nat.pow_succ];omega
     have e3:x % 2 ^ (v+1)=2 ^ v+(x % 2 ^ (v+1)-2 ^ v):=by omega
     rw [e3,Nat.testBit_two_pow_add_eq,Nat.testBit_lt_two_pow (by omega)] at h2;cases h2
    ·omega
   apply Nat.eq_of_testBit_eq
   intro i
   have e4:x+2 ^ v=2 ^ (v+1)*(x/2 ^ (v+1))+(2 ^ v+x % 2 ^ (v+1)):=by omega
   have e5:2 ^ v+x % 2 ^ (v+1)<2 ^ (v+1):=by
    have e2:(2:Nat) ^ (v+1)=2 ^ v+2 ^ v:=by rw [Nat.pow_succ];omega
    omega
   rw [e4,Nat.testBit_two_pow_mul_add _ e5,Nat.testBit_or,Nat.testBit_two_pow];have h6:=Nat.testBit_mod_two_pow x (v+1) i
   have h7:x.testBit i=if i<v+1 then (x % 2 ^ (v+1)).testBit i else (x/2 ^ (v+1)).testBit (i-(v+1)):=by
    split
    ·rename_i hi;rw [h6];simp [hi]
    ·rename_i hi;rw [Nat.testBit_div_two_pow];congr 1;omega
   rw [h7]
   by_cases hi:i<v+1
   ·rw [if_pos hi,if_pos hi]
    by_cases hiv:i=v
    ·subst hiv;rw [Nat.testBit_two_pow_add_eq,Nat.testBit_lt_two_pow hm];simp
    ·rw [Nat.testBit_two_pow_add_gt (by omega)];simp [Ne.symm hiv]
   ·rw [if_neg hi,if_neg hi]
    have:¬ v=i:=by omega
    simp [this]
  rw [e,Nat.testBit_or,Nat.testBit_two_pow]
  simp [Ne.symm hu]
theorem setb_bit (x v:Nat) (b:Bool) (u:Nat):(setb x v b).testBit u=if u=v then b else x.testBit u:=by
 unfold setb
 by_cases h:x.testBit v=b
 ·rw [if_pos h]
  by_cases hu:u=v
  ·subst hu;rw [if_pos rfl];exact h
  ·rw [if_neg hu]
 ·rw [if_neg h]
  cases b with
  | true =>
   have h':x.testBit v=false:=by simpa using h
   rw [if_pos rfl,tb_add h']
  | false =>
   have h':x.testBit v=true:=by simpa using h
   have hge:2 ^ v<=x:=Nat.ge_two_pow_of_testBit h'
   have h0:(x-2 ^ v).testBit v=false:=by
    cases e:(x-2 ^ v).testBit v with
    | false=>rfl
    | true =>
     have:=Nat.testBit_two_pow_add_eq (x-2 ^ v) v
     rw [Nat.add_comm,Nat.sub_add_cancel hge,h',e] at this;cases this
   have:=tb_add h0 u;rw [Nat.sub_add_cancel hge] at this
   simp only [Bool.false_eq_true,if_false]
   by_cases hu:u=v
   ·subst hu;rw [if_pos rfl];exact h0
   ·rw [if_neg hu] at this ⊢;exact this.symm
theorem setb_lt {x v n:Nat} (b:Bool) (hx:x<2 ^ n) (hv:v<n):setb x v b<2 ^ n:=by
 apply Nat.lt_pow_two_of_testBit
 intro i hi
 rw [setb_bit,if_neg (by omega)];exact Nat.testBit_lt_two_pow (Nat.lt_of_lt_of_le hx (Nat.pow_le_pow_right (by omega) hi))
theorem setb_idx {n v:Nat} (hv:v<n) (y:Nat->Bool) (b:Bool):setb (idx n y) v b=idx n (upd y v b):=by
 apply Nat.eq_of_testBit_eq
 intro u
 rw [setb_bit,idx_bit,idx_bit]
 by_cases hu:u=v
 ·subst hu;simp [hv,upd]
 ·simp [hu,upd]
def TV.fn (t:TV) (y:Nat->Bool):Bool:=t.bit (idx t.n y)
theorem TV.fn_ext {t u:TV} (ht:t.Ok) (hu:u.Ok) (hn:t.n=u.n) (h:∀ y,t.fn y=u.fn y):t=u :=
 TV.ext ht hu hn fun x hx=>by
  have:=h fun v=>x.testBit v
  unfold TV.fn at this;rw [idx_of hx,<- hn,idx_of hx] at this;exact this
theorem TV.fn_same (t:TV) {x y:Nat->Bool} (h:∀ v,v<t.n->x v=y v):t.fn x=t.fn y:=by
 have:idx t.n x=idx t.n y:=by
  apply Nat.eq_of_testBit_eq
  intro v
  rw [idx_bit,idx_bit]
  by_cases hv:v<t.n
  ·simp [hv,h v hv]
  ·simp [hv]
 unfold TV.fn;rw [this]
end Go.Proofs.YtfkopmhpppeheaaGreat
namespace Go.Proofs.YtfkopmhpppeheaaGreat
open Go.RowKit
def mkT (n:Nat) (f:Nat->Bool):TV:=⟨n,(List.range (wordsN n)).map fun i=>((idx 64 fun j=>decide (64*i+j<2 ^ n)&&f (64*i+j):Nat):Int)⟩
theorem nb_cast (m i:Nat):nb (m:Int) i=m.testBit i:=by simp [nb]
theorem mkT_word (n:Nat) (f:Nat->Bool) {i:Nat} (hi:i<wordsN n):(mkT n f).ws.getD i 0=((idx 64 fun j=>decide (64*i+j<2 ^ n)&&f (64*i+j):Nat):Int):=by
 rw [List.getD_eq_getElem?_getD]
 simp [mkT,hi]
theorem mkT_ok {n:Nat} (f:Nat->Bool) (hn:n<=16):(mkT n f).Ok:=by
 refine ⟨hn,by simp [mkT],fun x hx=>?_,fun h6 x hx i hi=>?_⟩
 ·simp only [mkT,List.mem_map] at hx
  obtain ⟨i,_,rfl⟩:=hx
  have:=idx_lt 64 fun j=>decide (64*i+j<2 ^ n)&&f (64*i+j)
  unfold U64;omega
 ·have h6':n<6:=h6
  have hi':2 ^ n<=i:=hi
  simp only [mkT,List.mem_map,List.mem_range] at hx
  obtain ⟨j,hj,rfl⟩:=hx
  have hj0:j=0:=by unfold wordsN at hj;rw [if_pos (by omega)] at hj;omega
  subst hj0;rw [nb_cast,idx_bit]
  simp;intro _ h;omega
theorem mkT_bit {n:Nat} (f:Nat->Bool) {x:Nat} (hx:x<2 ^ n):(mkT n f).bit x=f x:=by
 unfold TV.bit;rw [mkT_word n f (div64_lt hx),nb_cast,idx_bit]
 have e:64*(x/64)+x % 64=x:=by omega
 simp only [e,hx,decide_true,Bool.true_and]
 have:x % 64<64:=Nat.mod_lt _ (by omega)
 simp [this]
theorem mkT_n (n:Nat) (f:Nat->Bool):(mkT n f).n=n:=rfl
theorem mkT_eq {t:TV} (ht:t.Ok) {f:Nat->Bool} (h:∀ x,x<2 ^ t.n->t.bit x=f x):t=mkT t.n f :=
 TV.ext ht (mkT_ok f ht.n16) rfl fun x hx=>by rw [h x hx,mkT_bit f hx]
theorem mkT_fn {n:Nat} (f:Nat->Bool) (y:Nat->Bool):(mkT n f).fn y=f (idx n y):=by
 unfold TV.fn;rw [mkT_n,mkT_bit f (idx_lt n y)]
def constT (n:Nat) (b:Bool):TV:=mkT n fun _=>b
def varT (n v:Nat):TV:=mkT n fun x=>x.testBit v
def cofT (t:TV) (v:Nat) (b:Bool):TV:=mkT t.n fun x=>t.bit (setb x v b)
theorem constT_fn (n:Nat) (b:Bool) (y:Nat->Bool):(constT n b).fn y=b:=mkT_fn _ y
theorem cofT_fn {t:TV} {v:Nat} (hv:v<t.n) (b:Bool) (y:Nat->Bool):(cofT t v b).fn y=t.fn (upd y v b):=by
 unfold cofT;rw [mkT_fn,setb_idx hv];rfl
theorem cofT_ok {t:TV} (ht:t.Ok) (v:Nat) (b:Bool):(cofT t v b).Ok:=mkT_ok _ ht.n16
def depT (t:TV) (v:Nat):Bool:=!decide (cofT t v false=cofT t v true)
theorem depT_iff {t:TV} (ht:t.Ok) {v:Nat} (hv:v<t.n):depT t v=true↔Hangs t.fn v:=by
 unfold depT;rw [Bool.not_eq_true',decide_eq_false_iff_not];constructor
 ·intro hne
  by_cases hh:∃ y,t.fn (upd y v true)≠t.fn (upd y v false)
  ·exact hh
  ·exfalso
   refine hne (TV.fn_ext (cofT_ok ht v false) (cofT_ok ht v true) rfl fun y=>?_);rw [cofT_fn hv,cofT_fn hv]
   by_cases h:t.fn (upd y v false)=t.fn (upd y v true)
   ·exact h
   ·exact absurd ⟨y,fun e=>h e.symm⟩ hh
 ·rintro ⟨y,hy⟩ e
  exact hy (by rw [<- cofT_fn hv true y,<- cofT_fn hv false y,e])
theorem setb_low {x v:Nat} (b:Bool) (hv:v<6):setb x v b/64=x/64/\setb x v b % 64=setb (x % 64) v b:=by
 constructor
 ·apply Nat.eq_of_testBit_eq
  intro i
  rw [show (64:Nat)=2 ^ 6 from rfl,Nat.testBit_div_two_pow,Nat.testBit_div_two_pow,setb_bit,if_neg (by omega)]
 ·apply Nat.eq_of_testBit_eq
  intro i
  rw [show (64:Nat)=2 ^ 6 from rfl,Nat.testBit_mod_two_pow,setb_bit,setb_bit,Nat.testBit_mod_two_pow]
  by_cases h:i=v
  ·subst h;simp [hv]
  ·simp [h]
theorem setb_hi {x v:Nat} (b:Bool) (hv:6<=v):setb x v b/64=setb (x/64) (v-6) b/\setb x v b % 64=x % 64:=by
 constructor
 ·apply Nat.eq_of_testBit_eq
  intro i
  rw [show (64:Nat)=2 ^ 6 from rfl,Nat.testBit_div_two_pow,setb_bit,setb_bit,Nat.testBit_div_two_pow]
  by_cases h:i=v-6
  ·subst h;rw [if_pos (by omega),if_pos rfl]
  ·rw [if_neg (by omega),if_neg h]
 ·apply Nat.eq_of_testBit_eq
  intro i
  rw [show (64:Nat)=2 ^ 6 from rfl,Nat.testBit_mod_two_pow,Nat.testBit_mod_two_pow,setb_bit]
  by_cases h:i<6
  ·simp [h,show i≠v by omega]
  ·simp [h]
theorem u64_zero:U64 0:=by unfold U64;omega
theorem nb_shr {x:Int} (hx:U64 x) (k i:Nat):U64 (x/2 ^ k)/\nb (x/2 ^ k) i=nb x (i+k):=by
 obtain ⟨n,rfl⟩ : ∃ n:Nat,x=(n:Int):=⟨x.toNat,by unfold U64 at hx;omega⟩
 have e:((n:Int)/2 ^ k)=((n/2 ^ k:Nat):Int):=by push_cast;rfl
 refine ⟨?_,?_⟩
 ·rw [e]
  have h1:=Nat.div_le_self n (2 ^ k);generalize n/2 ^ k=m at h1 ⊢
  unfold U64 at hx ⊢;omega
 ·rw [e,nb_cast,nb_cast,Nat.testBit_div_two_pow,Nat.add_comm]
theorem nb_shl {x:Int} (hx:U64 x) (k i:Nat):nb (IntKind.u64.wrap (x*2 ^ k)) i=(decide (i<64)&&(decide (k<=i)&&nb x (i-k))):=by
 obtain ⟨n,rfl⟩ : ∃ n:Nat,x=(n:Int):=⟨x.toNat,by unfold U64 at hx;omega⟩
 have e:IntKind.u64.wrap ((n:Int)*2 ^ k)=((n*2 ^ k % 18446744073709551616:Nat):Int):=by
  have h1:IntKind.u64.wrap ((n:Int)*2 ^ k)=((n:Int)*2 ^ k) % 18446744073709551616:=rfl
  have h2:(n:Int)*2 ^ k=((n*2 ^ k:Nat):Int):=by push_cast;rfl
  rw [h1,h2];generalize n*2 ^ k=m;omega
 rw [e,nb_cast,nb_cast,show (18446744073709551616:Nat)=2 ^ 64 from rfl,Nat.testBit_mod_two_pow,Nat.testBit_mul_two_pow]
def cofW (v:Nat) (b:Bool) (ones w:Int):Int :=
 if b then bits BinOp.or IntKind.u64 (bits BinOp.and IntKind.u64 w ones) (bits BinOp.and IntKind.u64 w ones/2 ^ (2 ^ v))
 else bits BinOp.or IntKind.u64 (bits BinOp.andNot IntKind.u64 w ones) (IntKind.u64.wrap (bits BinOp.andNot IntKind.u64 w ones*2 ^ (2 ^ v)))
theorem low_facts:∀ v,v<6->∀ i,i<64->(((i+2 ^ v).testBit v=!i.testBit v)/\(i.testBit v=true->2 ^ v<=i/\(i-2 ^ v).testBit v=false)/\(2 ^ v<=i->i.testBit v=false->(i-2 ^ v).testBit v=true)):=by decide +kernel
theorem cofW_bit {v:Nat} (hv:v<6) (b:Bool) {ones w:Int} (hw:U64 w) (ho:U64 ones) (hob:∀ i,i<64->nb ones i=i.testBit v):U64 (cofW v b ones w)/\∀ i,i<64->nb (cofW v b ones w) i=nb w (setb i v b):=by
 have p6:(2:Nat) ^ v<=32:=by
  have:(2:Nat) ^ v<=2 ^ 5:=Nat.pow_le_pow_right (by omega) (by omega);omega
 unfold cofW
 cases b with
 | true =>
  rw [if_pos rfl];have hA:=bits_u64 BinOp.and w ones
  have hS:=fun i=>nb_shr hA (2 ^ v) i
  refine ⟨bits_u64 _ _ _,fun i hi=>?_⟩;obtain ⟨f1,f2,f3⟩:=low_facts v hv i hi;rw [nb_or hA (hS 0).1,(hS i).2,nb_and hw ho,nb_and hw ho,hob i hi];unfold setb
  cases hb:i.testBit v with
  | true =>
   rw [if_pos rfl]
   have:nb ones (i+2 ^ v)=false:=by
    by_cases h64:i+2 ^ v<64
    ·rw [hob _ h64,f1,hb];rfl
    ·exact nb_high ho (by omega)
   rw [this];simp
  | false =>
   simp only [Bool.false_eq_true,if_false,if_true,Bool.and_false,Bool.false_or]
   by_cases h64:i+2 ^ v<64
   ·rw [hob _ h64,f1,hb];simp
   ·rw [nb_high hw (by omega)];simp
 | false =>
  simp only [Bool.false_eq_true,if_false]
  have hA:=bits_u64 BinOp.andNot w ones;refine ⟨bits_u64 _ _ _,fun i hi=>?_⟩;obtain ⟨f1,f2,f3⟩:=low_facts v hv i hi;have hsub:=Nat.sub_le i (2 ^ v);rw [nb_or hA (wrap_u64 _),nb_shl hA,nb_andNot hw ho hi,hob i hi];unfold setb
  cases hb:i.testBit v with
  | true =>
   obtain ⟨g1,g2⟩:=f2 hb
   simp only [Bool.not_true,Bool.and_false,Bool.false_or,hi,decide_true,Bool.true_and,g1]
   rw [nb_andNot hw ho (by omega),hob _ (by omega),g2];simp
  | false =>
   rw [if_pos rfl]
   simp only [Bool.not_false,Bool.and_true,hi,decide_true,Bool.true_and]
   by_cases hle:2 ^ v<=i
   ·rw [nb_andNot hw ho (by omega),hob _ (by omega),f3 hle hb];simp
   ·simp [hle]
theorem cof_low {t:TV} (ht:t.Ok) {v:Nat} (hv:v<6) (hvn:v<t.n) (b:Bool) {ones:Int} (ho:U64 ones) (hob:∀ i,i<64->nb ones i=i.testBit v):cofT t v b=⟨t.n,t.ws.map (cofW v b ones)⟩:=by
 have hok:(⟨t.n,t.ws.map (cofW v b ones)⟩ : TV).Ok:=by
  refine ⟨ht.n16,by simp [ht.len],fun x hx=>?_,fun h6 x hx i hi=>?_⟩
  ·obtain ⟨w,hw,rfl⟩:=List.mem_map.1 hx
   exact (cofW_bit hv b (ht.u w hw) ho hob).1
  ·obtain ⟨w,hw,rfl⟩:=List.mem_map.1 hx
   have hc:=cofW_bit hv b (ht.u w hw) ho hob
   by_cases h64:i<64
   ·rw [hc.2 i h64]
    have h6':t.n<6:=h6;have hi':2 ^ t.n<=i:=hi;refine ht.low h6' w hw _ ?_
    by_cases hlt:setb i v b<2 ^ t.n
    ·exfalso
     have:setb (setb i v b) v (i.testBit v)=i:=by
      apply Nat.eq_of_testBit_eq
      intro u
      rw [setb_bit,setb_bit]
      by_cases hu:u=v
      ·subst hu;simp
      ·simp [hu]
     have h2:=setb_lt (i.testBit v) hlt hvn
     rw [this] at h2;omega
    ·omega
   ·exact nb_high hc.1 (by omega)
 refine (mkT_eq hok fun x hx=>?_).symm;have hd:=div64_lt (n:=t.n) hx;obtain ⟨w1,w2,w3⟩:=ht.word hd;unfold TV.bit
 have e:(t.ws.map (cofW v b ones)).getD (x/64) 0=cofW v b ones (t.ws.getD (x/64) 0):=by
  rw [List.getD_eq_getElem?_getD,List.getElem?_map,w3];rfl
 show nb ((t.ws.map (cofW v b ones)).getD (x/64) 0) (x % 64)=nb (t.ws.getD (setb x v b/64) 0) (setb x v b % 64)
 rw [e,(cofW_bit hv b w1 ho hob).2 _ (Nat.mod_lt _ (by omega)),(setb_low b hv).1,(setb_low b hv).2]
theorem cof_hi {t:TV} (ht:t.Ok) {v:Nat} (hv:6<=v) (hvn:v<t.n) (b:Bool):cofT t v b=⟨t.n,(List.range t.ws.length).map fun i=>t.ws.getD (setb i (v-6) b) 0⟩:=by
 have hw:=wordsN_mul (n:=t.n) (by omega);have hlen:=ht.len
 have hp:(2:Nat) ^ t.n=2 ^ (t.n-6)*64:=by
  have:t.n=(t.n-6)+6:=by omega
  conv=>lhs;rw [this,Nat.pow_add]
 have hwp:wordsN t.n=2 ^ (t.n-6):=by omega
 have hsl:∀ i,i<wordsN t.n->setb i (v-6) b<wordsN t.n:=fun i hi=>by
  rw [hwp] at hi ⊢;exact setb_lt b hi (by omega)
 have hok:(⟨t.n,(List.range t.ws.length).map fun i=>t.ws.getD (setb i (v-6) b) 0⟩ : TV).Ok:=by
  refine ⟨ht.n16,by simp [hlen],fun x hx=>?_,fun h6 x hx i hi=>?_⟩
  ·obtain ⟨i,hi,rfl⟩:=List.mem_map.1 hx
   rw [List.mem_range,hlen] at hi;exact (ht.word (hsl i hi)).1
  ·have h6':t.n<6:=h6
   omega
 refine (mkT_eq hok fun x hx=>?_).symm;have hd:=div64_lt (n:=t.n) hx;unfold TV.bit
 have e:((List.range t.ws.length).map fun i=>t.ws.getD (setb i (v-6) b) 0).getD (x/64) 0=t.ws.getD (setb (x/64) (v-6) b) 0:=by
  rw [List.getD_eq_getElem?_getD,List.getElem?_map,List.getElem?_range (by omega)];rfl
 show nb (((List.range t.ws.length).map fun i=>t.ws.getD (setb i (v-6) b) 0).getD (x/64) 0) (x % 64)=nb (t.ws.getD (setb x v b/64) 0) (setb x v b % 64)
 rw [e,(setb_hi b hv).1,(setb_hi b hv).2]
end Go.Proofs.YtfkopmhpppeheaaGreat
namespace Go.Proofs.YtfkopmhpppeheaaGreat
structure Plain (K:KV) (n m:Nat):Prop where
 ok:K.Ok
 uni:K.Uni
 vr:K.vars=n
 lv:∀ v,v<n->K.lev v=v
 pl:K.A.places=m
theorem plain_new {n m:Nat} (h1:1<=n) (hn:n<=64) (h2:2<=m) (hm:m<=1048576):Plain (KV.new n m) n m:=by
 refine ⟨KV.new_ok h1 hn h2 hm,(TInv.new n m).uni (KV.new_ok h1 hn h2 hm).wf,rfl,fun v hv=>by simp [KV.lev,KV.new,hv],rfl⟩
theorem KV.Made.at_iff {K K':KV} {v lo hi r:Nat} (M:K.Made v lo hi r K') {s u lo' hi':Nat}:K'.At s u lo' hi'↔(s=r/\u=v/\lo'=lo/\hi'=hi)\/K.At s u lo' hi':=by
 constructor
 ·intro h
  obtain ⟨h2,p,hp,hpt,e1,e2,e3⟩:=h
  by_cases e:s=r
  ·subst e
   rw [M.at_] at hp;cases hp
   simp at e1 e2 e3
   exact .inl ⟨rfl,by omega,e2.symm,e3.symm⟩
  ·have ht:K'.A.tk s=true:=ArenaV.tk_iff.2 ⟨p,hp,hpt⟩
   rw [M.tk] at ht
   simp [e] at ht
   obtain ⟨p',hp',hpt'⟩:=ArenaV.tk_iff.1 ht;have:=M.ext.nd s p' hp' hpt'
   rw [hp] at this;cases this
   exact .inr ⟨h2,p,hp',hpt,e1,e2,e3⟩
 ·rintro (⟨rfl,rfl,rfl,rfl⟩ | ⟨h2,p,hp,hpt,rest⟩)
  ·exact ⟨M.two,_,M.at_,rfl,rfl,rfl,rfl⟩
  ·exact ⟨h2,p,M.ext.nd s p hp hpt,hpt,rest⟩
end Go.Proofs.YtfkopmhpppeheaaGreat
namespace Go.Proofs.YtfkopmhpppeheaaGreat
open Go.RowKit Go.Maps Go.ChangeMaps Go.WideShapes
structure MakePost (b:Nat) (v:Int) (lo hi:Nat) (K:KV) (q:KPtr) (w:World) (e:Ending) (w':World):Prop where
 ex:∃ (r:Nat) (code:Int) (K':KV) (T':List DM) (q':KPtr),e=.returned (.tuple #[.int .u32 r,.int .i64 code])/\MakeR K v lo hi r code K'/\KerIn w' b K' T' q'/\Upd (q.all b) w w'/\Sub (q.all b) w (q'.all b)
theorem var_live (b:Nat) (v:Int) (K:KV) (T:List DM) (q:KPtr) (w:World) (h:KerIn w b K T q) :
  Calls Tryz.prog 78 #[.pointer (some ⟨b,0,none⟩),.int .i64 v] w fun e w'=>MakePost b v 0 1 K q w e w':=by
 have HK:=Lib.hid h;clear h
 go_enter Tryz.func78,Tryz.ntmps78
 go_wp2_with fail;refine (make_spec b v 0 1 K T q w HK.out (by omega) (by omega)).mono ?_;rintro e w1 ⟨r,code,K',T',q',rfl,hE⟩;have HE:=Lib.hid hE;clear hE;go_wp2_with fail;go_ret2;exact ⟨r,code,K',T',q',rfl,HE.out⟩
end Go.Proofs.YtfkopmhpppeheaaGreat
