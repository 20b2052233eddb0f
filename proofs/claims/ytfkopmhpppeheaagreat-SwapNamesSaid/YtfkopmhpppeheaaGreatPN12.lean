import Derived.Test.YtfkopmhpppeheaaGreatPN11
import Derived.Test.YtfkopmhpppeheaaGreatPN7
import Derived.Test.YtfkopmhpppeheaaGreatPN9
import Derived.Deep.QuietTactic
set_option maxRecDepth 100000
set_option maxHeartbeats 1600000
namespace Go.Proofs.YtfkopmhpppeheaaGreat
open Go.RowKit Go.Maps Go.ChangeMaps Go.WideShapes
structure GY (b:Nat) (K0:KV) (q:aA) (t:(Nat->Bool)->Bool) (w:World) (e:Ending) (w':World):Prop where
 ex:∃ (r:Nat) (code:Int) (K':KV) (T':List DM) (q':aA),e=.returned (.tuple #[.int .u32 r,.int .i64 code])/\OpR K0 t r code K'/\bV w' b K' T' q'/\af (q.all b) w w'/\Sub (q.all b) w (q'.all b)
theorem GY.of_run {b wb f g h:Nat} {K0:KV} {q:aA} {L:Bool->Bool->Bool->Bool} {lvv:Value} {w w1 w':World} {e:Ending} (hk:K0.Ok) (hA:pM K0 f g h) (hu:af [] w w1) (hF:∀ k,k∈sQ wb lvv (.slice none 0 0)->w.heap.size<=k)
  (R:GX b K0 q L f g h (kN wb b q lvv (.slice none 0 0)) w1 e w'):GY b K0 q (K0.iE L f g h) w e w':=by
 obtain ⟨r,code,K1,M,K',T',q',rfl,S,h1,iq,X,dB,jy,uO⟩:=R.ex
 have wK:∀ k,k∈kN wb b q lvv (.slice none 0 0)->k∈q.all b\/w.heap.size<=k:=fun k hk=>by
  rcases List.mem_append.1 hk with h | h
  ·exact .inl h
  ·exact .inr (hF k h)
 have dG:=hu.size;refine ⟨_,_,K',T',q',rfl,aeW hk h1 dB.ok hA S X,dB,(hu.mono (by simp):af (q.all b) w w1).then jy wK,fun k hk=>?_⟩
 rcases uO k hk with h | h
 ·exact wK k h
 ·right;omega
theorem Jm (b op f g:Nat) (K:KV) (T:List DM) (q:aA) (w:World) (h:bV w b K T q) (ho:op<=15) (hf:K.A.tk f=true) (hg:K.A.tk g=true) :
  Calls Tryz.prog 92 #[.pointer (some ⟨b,0,none⟩),.int .u8 op,.int .u32 f,.int .u32 g] w fun e w'=>GY b K q (K.iE (fun x y _=>SC op x y) f g 0) w e w':=by
 have hmf:∀ (fn:Fn) (first cap:Array Value) (w:World),(Instr.makeFunc fn first cap).run Tryz.prog w=.ok (.func fn first cap) w:=fun _ _ _ _=>rfl
 have TM:decide ((15:Int)<(op:Int))=false:=by simp;omega
 have aqG:decide (15<op)=false:=by simp;omega
 have HK:=Lib.hid h;have HA:Hid (pM K f g 0):=⟨hf,hg,h.ok.wf.ok.oq.1⟩;have pO:Hid ((w.alloc (.cells #[.int .u8 op] 5 (0,0))).heap[w.heap.size]?=some (.cells #[.int .u8 op] 5 (0,0))):=heap_alloc_new w _;have x0:=ae (j:=0) pO.out rfl
 have bF:Hid (((w.alloc (.cells #[.int .u8 op] 5 (0,0))).alloc (.cells #[.int .u32 f,.int .u32 g] 77 (0,0))).ownsRow 0 77 1 (.slice (some ⟨w.heap.size+1,0,none⟩) 2 2) [f,g].length (aI [f,g])):=by
  have:=World.ownsRow_lit (base:=0) (e:=77) (size:=1) (w.alloc (.cells #[.int .u8 op] 5 (0,0))) #[.int .u32 f,.int .u32 g] 2 (Nat.zero_le _) (by unfold maxLen;omega) rfl;rw [World.size_alloc] at this;exact this
 have HU:Hid (af [] w ((w.alloc (.cells #[.int .u8 op] 5 (0,0))).alloc (.cells #[.int .u32 f,.int .u32 g] 77 (0,0)))):=((af.refl [] w).alloc _).alloc _
 have HL:Hid (∀ r,r∈[f,g]->K.A.tk r=true):=fun r hr=>by
  simp only [List.mem_cons,List.not_mem_nil,or_false] at hr
  rcases hr with rfl | rfl
  ·exact hf
  ·exact hg
 clear h hf hg
 go_enter Tryz.func92,Tryz.ntmps92
 go_wp2_with fail;refine (TI b K T q _ [f,g] _ (HK.out.upd HU.out (by simp)) bF.out HL.out (by simp)).mono ?_;rintro e w1 ⟨wb,lvv,rfl,hW,hu,hF⟩;have dG:=HU.out.size;have Af:Hid (w1.heap[w.heap.size]?=some (.cells #[.int .u8 op] 5 (0,0))):=(hu.block _ (by rw [World.size_alloc,World.size_alloc];omega) (by simp)).trans ((heap_alloc_old _ _ (ah pO.out)).trans pO.out);have HW:=Lib.hid (And.intro hW (And.intro (HU.out.trans hu) (fun k hk=>Nat.le_trans dG (hF k hk):∀ k,k∈sQ wb lvv (.slice none 0 0)->w.heap.size<=k)))
 have HLF:Hid (GV w1 165 #[.pointer (some ⟨w.heap.size,0,none⟩)] [w.heap.size] (fun x y _=>SC op x y)):=fun w' hw' x y z=>by
  have e:=(hw' w.heap.size (by simp)).trans Af.out;exact L6 op w.heap.size x y z w' ho (ae e rfl)
 have HDJ:Hid (∀ k,k∈kN wb b q lvv (.slice none 0 0)->k∉[w.heap.size]):=fun k hk hm=>by
  simp only [List.mem_singleton] at hm
  subst hm
  rcases List.mem_append.1 hk with h1 | h1
  ·have:=HK.out.mem.lt _ h1;omega
  ·have:=hF _ h1
   rw [World.size_alloc,World.size_alloc] at this;omega
 clear hW hu hF x0;go_wp2_with fail;refine (Qc wb b 165 f g 0 #[.pointer (some ⟨w.heap.size,0,none⟩)] [w.heap.size] (fun x y _=>SC op x y) K T q lvv w1 HW.out.1 HA.out HLF.out (fun k hk=>by simp only [List.mem_singleton] at hk;subst hk;exact ah Af.out) HDJ.out TK).mono ?_;rintro e w2 hR;obtain ⟨r,code,K',T',q',rfl,hE⟩:=(GY.of_run HK.out.ok HA.out HW.out.2.1 HW.out.2.2 hR).ex;have HE:=Lib.hid hE;clear hR hE;go_wp2_with fail;go_ret2;exact ⟨r,code,K',T',q',rfl,HE.out⟩
end Go.Proofs.YtfkopmhpppeheaaGreat
namespace Go.Proofs.YtfkopmhpppeheaaGreat
def KV.lives (K:KV):List Nat:=(List.range K.A.list.length).filter fun r=>K.A.tk r
theorem KV.dQ {K:KV} {x:Nat}:x∈K.lives↔K.A.tk x=true:=by
 simp only [KV.lives,List.mem_filter,List.mem_range]
 exact ⟨fun h=>h.2,fun h=>⟨ag.iZ h,h⟩⟩
theorem KV.ja (K:KV):K.lives.Nodup:=List.Pairwise.filter _ List.nodup_range
theorem KV.pV {K:KV} {P:List Nat} (h:K.Wf P):K.lives.length=K.A.used:=by
 have uP:=h.ok.us
 have e1:K.A.free.length=((List.range K.A.list.length).filter fun r=>!(K.A.tk r)).length:=by
  have I5:∀ r,r∈K.A.free↔r∈(List.range K.A.list.length).filter fun r=>!(K.A.tk r):=by
   intro r
   rw [h.ok.fr r,List.mem_filter,List.mem_range];constructor
   ·rintro ⟨p,hp,aH⟩
    refine ⟨(List.getElem?_eq_some_iff.1 hp).1,?_⟩
    simp [ag.tk,hp,aH]
   ·rintro ⟨hl,ht⟩
    refine ⟨K.A.list[r],List.getElem?_eq_getElem hl,?_⟩
    simpa [ag.tk,List.getElem?_eq_getElem hl] using ht
  refine Nat.le_antisymm ?_ ?_
  ·exact List.Nodup.length_le_of_subset h.ok.nd fun r hr=>(I5 r).1 hr
  ·exact List.Nodup.length_le_of_subset (List.Pairwise.filter _ List.nodup_range) fun r hr=>(I5 r).2 hr
 have e2:(List.range K.A.list.length).length=K.lives.length+((List.range K.A.list.length).filter fun r=>!(K.A.tk r)).length:=by
  rw [KV.lives,<- List.countP_eq_length_filter,<- List.countP_eq_length_filter];have hh:=List.length_eq_countP_add_countP (fun r=>K.A.tk r) (l:=List.range K.A.list.length);rw [hh]
  congr 2
  funext a
  cases K.A.tk a <;> rfl
 rw [List.length_range] at e2;omega
theorem KV.XW {K:KV} {P:List Nat} (h:K.Wf P) {l:List Nat} (hl:∀ x,K.A.tk x=true->x∈l):K.A.used<=l.length:=by
 rw [<- K.pV h]
 exact List.Nodup.length_le_of_subset K.ja fun x hx=>hl x (KV.dQ.1 hx)
theorem KV.uC {K:KV} {P:List Nat} (h:K.Wf P) {l:List Nat} (hn:l.Nodup) (hl:∀ x,x∈l->K.A.tk x=true):l.length<=K.A.used:=by
 rw [<- K.pV h]
 exact List.Nodup.length_le_of_subset hn fun x hx=>KV.dQ.2 (hl x hx)
theorem KV.lS {K:KV} (hk:K.Ok) (l:Nat) (a:Nat->Bool):∀ (n r:Nat),K.vars-K.dep r<=n->K.A.tk r=true->∃ x,K.A.tk x=true/\∀ y,K.den x y=K.den r (K.mix l a y)
 | n,r,hn,ht=>by
  by_cases hl:l<=K.dep r
  ·refine ⟨r,ht,fun y=>KV.jb hk.wf hk.ord _ r _ _ ht (Nat.le_refl _) fun v hv hd=>?_⟩
   simp only [KV.mix]
   rw [if_neg (by omega)]
  ·by_cases h2:2<=r
   ·obtain ⟨p,v,hp,aH,hv,gK,h3,h4,hd⟩:=hk.wf.cZ h2 ht
    have hb:=hk.ord.below hk.wf h2 hp aH;have Qd:=hk.wf.ni hk.ord h2 ht;have rP:=hk.wf.vH hk.ord h3;have wW:=hk.wf.vH hk.ord h4
    match n,hn with
    | 0,hn=>omega
    | n+1,hn =>
     have em:∀ y,K.mix l a y v=a v:=fun y=>by simp only [KV.mix];rw [if_pos ⟨gK,by omega⟩]
     have e:∀ y,K.den r (K.mix l a y)=if a v then K.den p.hi (K.mix l a y) else K.den p.lo (K.mix l a y):=fun y=>by
      rw [KV.dD hk.wf hk.ord h2 hp aH,show p.var.toNat=v by omega,em]
     cases ha:a v with
     | true =>
      obtain ⟨x,tx,hx⟩:=KV.lS hk l a n p.hi (by omega) h4;exact ⟨x,tx,fun y=>by rw [hx,e,ha];simp⟩
     | false =>
      obtain ⟨x,tx,hx⟩:=KV.lS hk l a n p.lo (by omega) h3;exact ⟨x,tx,fun y=>by rw [hx,e,ha];simp⟩
   ·refine ⟨r,ht,fun y=>?_⟩
    rw [K.aN (by omega),K.aN (by omega)]
end Go.Proofs.YtfkopmhpppeheaaGreat
namespace Go.Proofs.YtfkopmhpppeheaaGreat
open Go.RowKit Go.Maps Go.ChangeMaps Go.WideShapes
theorem iP:Keyed Tryz.prog 77:=int_keyed Tryz.underlying77
theorem uD (w:World):(zeroValue 3).run Tryz.prog w=.ok (.int .i64 0) w:=by kernel_rfl
structure sS (V:List Nat) (D:DM):Prop where
 im:IsMap D
 has:∀ r:Nat,r<=4294967295->(Maps.has D (.int .u32 r)=true↔r∈V)
 at_:∀ r:Nat,r<=4294967295->Maps.has D (.int .u32 r)=true->∀ z,D.atKey (.int .u32 r) z=.lit (.int .i64 1)
 dom:∀ k,Maps.has D k=true->∃ r:Nat,k=.int .u32 r/\r<1048576
theorem sS.nil:sS [] (.map []):=⟨isMap_empty,fun r _=>by simp [Maps.has],fun r _ h=>by simp [Maps.has] at h,fun k h=>by simp [Maps.has] at h⟩
theorem sS.put {V:List Nat} {D:DM} {r:Nat} (h:sS V D) (hr:r<1048576):sS (V++[r]) (D.put (.int .u32 r) (.lit (.int .i64 1))):=by
 have hl:WideAt.IsKeyLit (.int .u32 (r:Int)):=trivial
 have inj:∀ x:Nat,x≠r->(Lit.int .u32 (x:Int))≠.int .u32 (r:Int):=fun x hx e=>hx (by simp at e;omega)
 refine ⟨h.im.put _ _,fun x hx=>?_,fun x hx hh z=>?_,fun k hk=>?_⟩
 ·by_cases e:x=r
  ·subst e;simp [has_put_same h.im hl]
  ·rw [has_put_other (inj x e),h.has x hx];simp [e]
 ·by_cases e:x=r
  ·subst e;exact atKey_put_same h.im hl _ z
  ·rw [has_put_other (inj x e)] at hh
   rw [atKey_put_other (inj x e)];exact h.at_ x hx hh z
 ·by_cases e:k=.int .u32 (r:Int)
  ·exact ⟨r,e,hr⟩
  ·rw [has_put_other e] at hk;exact h.dom k hk
theorem Qe {V:List Nat} {D:DM} (h:sS V D) (hc:Maps.Canon D) (ht:Tidy D):Maps.size D<maxLen:=by
 have:=gm hc (ks:=(List.range 1048576).map fun (r:Nat)=>Lit.int .u32 (r:Int)) (fun k hk=>by
  obtain ⟨r,rfl,hr⟩:=h.dom k hk
  exact List.mem_map.2 ⟨r,List.mem_range.2 hr,rfl⟩) ht
 simp only [List.length_map,List.length_range] at this
 unfold maxLen;omega
inductive KV.Under (K:KV) (r:Nat):Nat->Prop
 | refl (h:2<=r):K.Under r r
 | lo {x:Nat} {p:ak} (h:K.Under r x) (hp:K.A.list[x]?=some p) (h2:2<=p.lo):K.Under r p.lo
 | hi {x:Nat} {p:ak} (h:K.Under r x) (hp:K.A.list[x]?=some p) (h2:2<=p.hi):K.Under r p.hi
theorem KV.Under.trans {K:KV} {r s x:Nat} (h:K.Under r s) (k:K.Under s x):K.Under r x:=by
 induction k with
 | refl _=>exact h
 | lo _ hp h2 ih=>exact .lo ih hp h2
 | hi _ hp h2 ih=>exact .hi ih hp h2
structure rE (K:KV) (V:List Nat) (r:Nat) (N:List Nat):Prop where
 nd:(V++N).Nodup
 has:2<=r->r∈V++N
 two:∀ x,x∈N->2<=x/\K.A.tk x=true
 under:∀ x,x∈N->K.Under r x
 kids:∀ (x:Nat) (p:ak),x∈N->K.A.list[x]?=some p->(p.lo<2\/p.lo∈V++N)/\(p.hi<2\/p.hi∈V++N)
theorem rE.none {K:KV} {V:List Nat} {r:Nat} (hv:V.Nodup) (h:r < 2∨r∈V):rE K V r [] :=
  ⟨by simpa using hv, fun h2 => by rcases h with h | h; · omega
                                   · simpa using h,by simp,by simp,by simp⟩
theorem rE.node {K:KV} {V N0 N1:List Nat} {r:Nat} {p:ak} (h2:2<=r) (ht:K.A.tk r=true) (hp:K.A.list[r]?=some p) (W0:rE K (V++[r]) p.lo N0) (W1:rE K (V++[r]++N0) p.hi N1) :
  rE K V r (r::(N0++N1)):=by
 have e:V++r::(N0++N1)=V++[r]++N0++N1:=by simp
 have in0:∀ x,x∈V++[r]++N0->x∈V++r::(N0++N1):=fun x hx=>by rw [e];exact List.mem_append.2 (.inl hx)
 have in1:∀ x,x∈V++[r]++N0++N1->x∈V++r::(N0++N1):=fun x hx=>by rw [e];exact hx
 refine ⟨by rw [e];exact W1.nd,fun _=>by simp,fun x hx=>?_,fun x hx=>?_,fun x c hx hc=>?_⟩
 ·rcases List.mem_cons.1 hx with rfl | hx
  ·exact ⟨h2,ht⟩
  ·rcases List.mem_append.1 hx with hx | hx
   ·exact W0.two x hx
   ·exact W1.two x hx
 ·have ulo:2<=p.lo->K.Under r p.lo:=fun h=>.lo (.refl h2) hp h
  have uhi:2<=p.hi->K.Under r p.hi:=fun h=>.hi (.refl h2) hp h
  have start:∀ {s x:Nat},K.Under s x->2<=s:=by
   intro s x h
   induction h with
   | refl h=>exact h
   | lo _ _ _ ih=>exact ih
   | hi _ _ _ ih=>exact ih
  rcases List.mem_cons.1 hx with rfl | hx
  ·exact .refl h2
  ·rcases List.mem_append.1 hx with hx | hx
   ·have:=W0.under x hx
    exact (ulo (start this)).trans this
   ·have:=W1.under x hx
    exact (uhi (start this)).trans this
 ·rcases List.mem_cons.1 hx with rfl | hx
  ·rw [hp] at hc;cases hc
   refine ⟨?_,?_⟩
   ·by_cases h:p.lo<2
    ·exact .inl h
    ·exact .inr (in0 _ (W0.has (by omega)))
   ·by_cases h:p.hi<2
    ·exact .inl h
    ·exact .inr (in1 _ (W1.has (by omega)))
  ·rcases List.mem_append.1 hx with hx | hx
   ·have:=W0.kids x c hx hc
    exact ⟨this.1.imp_right (in0 _),this.2.imp_right (in0 _)⟩
   ·have:=W1.kids x c hx hc
    exact ⟨this.1.imp_right (in1 _),this.2.imp_right (in1 _)⟩
theorem BI {W:World} {mb:Nat} (h:W.heap[mb]?=some (.map #[] 0)):W.ownsMap Tryz.prog 77 (plainElem (H:=Unit) Tryz.prog 3) mb 0 (.map []):=by
 obtain ⟨es,clock,q1,q2,q3,q4⟩:=World.ownsMap_made W Tryz.prog 77 (plainElem (H:=Unit) Tryz.prog 3);rw [heap_alloc_new] at q1;cases q1;exact ⟨#[],0,h,q2,Nat.zero_le _,rfl⟩
inductive jT (K:KV):List Nat->List Nat->List Nat->Prop
 | nil (V:List Nat):jT K V [] []
 | cons {V N N':List Nat} {r:Nat} {rs:List Nat} (h:rE K V r N) (t:jT K (V++N) rs N'):jT K V (r::rs) (N++N')
theorem jT.snoc {K:KV} {V rs N:List Nat} (h:jT K V rs N):∀ {r:Nat} {N1:List Nat},rE K (V++N) r N1->jT K V (rs++[r]) (N++N1):=by
 induction h with
 | nil V=>intro r N1 h1;have:=jT.cons (by simpa using h1) (jT.nil (K:=K) (V++N1));simpa using this
 | cons h t ih =>
  intro r N1 h1
  have:=ih (by simpa [List.append_assoc] using h1);have:=jT.cons h this
  simpa [List.append_assoc] using this
theorem jT.nodup {K:KV} {V rs N:List Nat} (h:jT K V rs N):V.Nodup->(V++N).Nodup:=by
 induction h with
 | nil V=>intro h;simpa using h
 | cons h t ih=>intro _;have:=ih h.nd;simpa [List.append_assoc] using this
theorem Tryz.GZ:(Tryz.prog.info? 90).map (fun i=>(i.zero,i.size,i.bytes))=some (some (.int .u64 0),1,8):=by kernel_rfl
def fO (l:List Int):List Value:=l.map fun n=>Value.int .u64 n
def abH (s:Int) (v:Nat):Bool:=bits BinOp.and IntKind.u64 (s/2 ^ v) 1 == 1
theorem TN (n:Nat):(madeCells #[Value.int .u64 0] n).toList=List.replicate n (Value.int .u64 0):=by
 apply List.ext_getElem?
 intro i
 by_cases hi:i<n
 ·simp [madeCells,hi,Nat.mod_one]
 ·simp [madeCells,hi]
def jU (x:Int):Prop:=0<=x/\x<18446744073709551616
theorem wrap_u64 (n:Int):jU (IntKind.u64.wrap n):=by
 have e:IntKind.u64.wrap n=n % 18446744073709551616:=rfl
 rw [e];unfold jU;omega
theorem sU (op:BinOp) (x y:Int):jU (bits op IntKind.u64 x y):=wrap_u64 _
def nb (x:Int) (i:Nat):Bool:=x.toNat.testBit i
theorem TP {x:Int} (h:jU x):(BitVec.ofInt 64 x).toNat=x.toNat:=by
 unfold jU at h;rw [BitVec.toNat_ofInt]
 have:x % (2 ^ 64:Nat)=x:=by omega
 rw [this]
theorem FI {x:Int} (h:jU x) (i:Nat):nb x i=(BitVec.ofInt 64 x).getLsbD i:=by
 unfold nb;rw [<- TP h,BitVec.testBit_toNat]
theorem BJ (B:BitVec 64) (i:Nat):nb ((B.toNat:Int) % 18446744073709551616) i=B.getLsbD i:=by
 have h:=B.isLt
 have:((B.toNat:Int) % 18446744073709551616).toNat=B.toNat:=by omega
 unfold nb;rw [this,BitVec.testBit_toNat]
theorem ZY {x y:Int} (hx:jU x) (hy:jU y) (i:Nat):nb (bits BinOp.or IntKind.u64 x y) i=(nb x i||nb y i):=by
 rw [FI hx,FI hy,<- BitVec.getLsbD_or];exact BJ (BitVec.ofInt 64 x ||| BitVec.ofInt 64 y) i
theorem L8 {x y:Int} (hx:jU x) (hy:jU y) (i:Nat):nb (bits BinOp.and IntKind.u64 x y) i=(nb x i&&nb y i):=by
 rw [FI hx,FI hy,<- BitVec.getLsbD_and];exact BJ (BitVec.ofInt 64 x &&& BitVec.ofInt 64 y) i
theorem yD {x y:Int} (hx:jU x) (hy:jU y) {i:Nat} (hi:i<64):nb (bits BinOp.andNot IntKind.u64 x y) i=(nb x i&&!nb y i):=by
 rw [FI hx,FI hy];have e:nb (bits BinOp.andNot IntKind.u64 x y) i=(BitVec.ofInt 64 x &&& ~~~BitVec.ofInt 64 y).getLsbD i:=BJ _ i;rw [e,BitVec.getLsbD_and,BitVec.getLsbD_not,decide_eq_true hi,Bool.true_and]
theorem TQ {n:Nat} (hn:n<64) (i:Nat):nb (IntKind.u64.wrap (2 ^ n)) i=decide (n=i):=by
 have e:IntKind.u64.wrap ((2:Int) ^ n)=(2:Int) ^ n % 18446744073709551616:=rfl;have h1:(2:Nat) ^ n<2 ^ 64:=Nat.pow_lt_pow_right (by omega) hn
 have h2:((2:Int) ^ n)=((2 ^ n:Nat):Int):=by push_cast;rfl
 have h3:((2:Int) ^ n % 18446744073709551616).toNat=2 ^ n:=by rw [h2];generalize (2:Nat) ^ n=m at h1 ⊢;omega
 rw [e];unfold nb;rw [h3,Nat.testBit_two_pow]
theorem OL (i:Nat):nb 0 i=false:=by simp [nb]
theorem L9 {x y:Int} (hx:jU x) (hy:jU y) (h:∀ i,i<64->nb x i=nb y i):x=y:=by
 have:x.toNat=y.toNat:=by
  apply Nat.eq_of_testBit_eq
  intro i
  by_cases hi:i<64
  ·exact h i hi
  ·have l:∀ z:Int,jU z->z.toNat.testBit i=false:=fun z hz=>by
    apply Nat.testBit_lt_two_pow
    have h1:(2:Nat) ^ 64<=2 ^ i:=Nat.pow_le_pow_right (by omega) (by omega)
    unfold jU at hz;omega
   rw [l x hx,l y hy]
 unfold jU at hx hy;omega
theorem XX {x:Int} (hx:jU x) (v:Nat):abH x v=nb x v:=by
 obtain ⟨n,rfl⟩ : ∃ n:Nat,x=(n:Int):=⟨x.toNat,by unfold jU at hx;omega⟩
 have hn:n<18446744073709551616:=by unfold jU at hx;omega
 have e:((n:Int)/2 ^ v)=((n/2 ^ v:Nat):Int):=by push_cast;rfl
 have hu:jU ((n:Int)/2 ^ v):=by
  rw [e];have:=Nat.div_le_self n (2 ^ v);generalize n/2 ^ v=m at this ⊢;unfold jU;omega
 have h1:jU 1:=by unfold jU;omega
 have XY:nb ((n:Int)/2 ^ v) 0=nb (n:Int) v:=by
  rw [e];unfold nb
  simp only [Int.toNat_natCast]
  rw [Nat.testBit_div_two_pow,Nat.zero_add]
 have h2:∀ i,nb (bits BinOp.and IntKind.u64 ((n:Int)/2 ^ v) 1) i=(nb ((n:Int)/2 ^ v) i&&decide (i=0)):=fun i=>by
  rw [L8 hu h1]
  congr 1
  have:nb 1 i=decide (0=i):=TQ (n:=0) (by omega) i
  rw [this];by_cases h:i=0 <;> simp [h];omega
 have hW:=sU BinOp.and ((n:Int)/2 ^ v) 1;unfold abH
 cases hb:nb (n:Int) v with
 | true =>
  have:bits BinOp.and IntKind.u64 ((n:Int)/2 ^ v) 1=1:=L9 hW h1 fun i _=>by
   have e1:nb 1 i=decide (0=i):=TQ (n:=0) (by omega) i;rw [h2,e1]
   by_cases h:i=0
   ·subst h;rw [XY,hb];rfl
   ·simp [h];omega
  rw [this];rfl
 | false =>
  have:bits BinOp.and IntKind.u64 ((n:Int)/2 ^ v) 1=0:=L9 hW (by unfold jU;omega) fun i _=>by
   rw [h2,OL]
   by_cases h:i=0
   ·subst h;rw [XY,hb];rfl
   ·simp [h]
  rw [this];rfl
theorem KV.Under.node {K:KV} {P:List Nat} (hw:K.Wf P) {r x:Nat} (ht:K.A.tk r=true) (h:K.Under r x):2<=x/\K.A.tk x=true:=by
 induction h with
 | refl h=>exact ⟨h,ht⟩
 | lo _ hp h2 ih =>
  obtain ⟨p',jo,lQ⟩:=ag.aP.1 ih.2
  rw [hp] at jo;cases jo
  exact ⟨h2,(hw.cl _ _ ih.1 hp lQ).1⟩
 | hi _ hp h2 ih =>
  obtain ⟨p',jo,lQ⟩:=ag.aP.1 ih.2
  rw [hp] at jo;cases jo
  exact ⟨h2,(hw.cl _ _ ih.1 hp lQ).2⟩
theorem KV.Ok.G5 {K:KV} (hk:K.Ok) {x:Nat} {p:ak} (h2:2<=x) (hp:K.A.list[x]?=some p) (aH:p.taken=true) (b:Bool) (y:Nat->Bool):K.den (if b then p.hi else p.lo) y=K.den x (upd y p.var.toNat b):=by
 cases b with
 | true=>exact (KV.kP hk.wf hk.ord h2 hp aH y).symm
 | false=>exact (KV.kQ hk.wf hk.ord h2 hp aH y).symm
theorem KV.Ok.OM {K:KV} (hk:K.Ok) {r x:Nat} {p:ak} (h2:2<=x) (hp:K.A.list[x]?=some p) (aH:p.taken=true) (b:Bool) {a:Nat->Bool} (ha:∀ y,K.den x y=K.den r (K.mix (K.dep x) a y)) :
  ∃ a',∀ y,K.den (if b then p.hi else p.lo) y=K.den r (K.mix (K.dep (if b then p.hi else p.lo)) a' y):=by
 have oV:=hk.wf.vr x p h2 hp aH;have hb:=hk.ord.below hk.wf h2 hp aH;have uF:=hk.wf.cl x p h2 hp aH
 have hdx:K.dep x=K.lev p.var.toNat:=by simp [KV.dep,hp,oV.1]
 have gK:p.var.toNat<K.vars:=by omega
 generalize hc:(if b then p.hi else p.lo)=c
 have htc:K.A.tk c=true:=by
  subst hc;cases b
  ·exact uF.1
  ·exact uF.2
 have hdc:K.dep x<K.dep c:=by
  subst hc;cases b
  ·exact hb.1
  ·exact hb.2
 refine ⟨upd a p.var.toNat b,fun y=>?_⟩
 have e1:K.den c y=K.den c (K.mix (K.dep c) (upd a p.var.toNat b) y):=KV.jb hk.wf hk.ord _ c _ _ htc (Nat.le_refl _) fun u hu hd=>by
  simp only [KV.mix];rw [if_neg (by omega)]
 rw [e1,<- hc,hk.G5 h2 hp aH,ha,hc]
 congr 1
 funext u
 simp only [KV.mix,upd]
 by_cases hu:u<K.vars
 ·by_cases h3:u=p.var.toNat
  ·subst h3
   simp only [hu,true_and,if_true]
   rw [if_neg (by omega),if_pos (by omega)]
  ·simp only [hu,true_and,h3,if_false]
   by_cases h4:K.lev u<K.dep x
   ·rw [if_pos h4,if_pos (by omega)]
   ·rw [if_neg h4]
 ·have h3:u≠p.var.toNat:=by omega
  simp [hu,h3]
theorem KV.Ok.Qg {K:KV} (hk:K.Ok) {r x:Nat} (ht:K.A.tk r=true) (h:K.Under r x):∃ a,∀ y,K.den x y=K.den r (K.mix (K.dep x) a y):=by
 induction h with
 | refl h=>exact ⟨fun _=>false,fun y=>KV.jb hk.wf hk.ord _ r _ _ ht (Nat.le_refl _) fun u hu hd=>by
   simp only [KV.mix];rw [if_neg (by omega)]⟩
 | lo h hp h2 ih =>
  obtain ⟨a,ha⟩:=ih;have hn:=h.node hk.wf ht;obtain ⟨p',jo,lQ⟩:=ag.aP.1 hn.2
  rw [hp] at jo;cases jo
  exact hk.OM hn.1 hp lQ false ha
 | hi h hp h2 ih =>
  obtain ⟨a,ha⟩:=ih;have hn:=h.node hk.wf ht;obtain ⟨p',jo,lQ⟩:=ag.aP.1 hn.2
  rw [hp] at jo;cases jo
  exact hk.OM hn.1 hp lQ true ha
def jI (t:(Nat->Bool)->Bool) (v:Nat):Prop:=∃ y,t (upd y v true)≠t (upd y v false)
end Go.Proofs.YtfkopmhpppeheaaGreat
namespace Go.Proofs.YtfkopmhpppeheaaGreat
structure TV where
 n:Nat
 ws:List Int
deriving DecidableEq
def bJ (n:Nat):Nat:=if n<=6 then 1 else 2 ^ (n-6)
structure TV.Ok (t:TV):Prop where
 n16:t.n<=16
 len:t.ws.length=bJ t.n
 u:∀ x,x∈t.ws->jU x
 low:t.n<6->∀ x,x∈t.ws->∀ i,2 ^ t.n<=i->nb x i=false
def TV.bit (t:TV) (x:Nat):Bool:=nb (t.ws.getD (x/64) 0) (x % 64)
theorem G6 {x:Int} (h:jU x) {i:Nat} (hi:64<=i):nb x i=false:=by
 apply Nat.testBit_lt_two_pow
 have h1:(2:Nat) ^ 64<=2 ^ i:=Nat.pow_le_pow_right (by omega) hi
 unfold jU at h;omega
theorem Mc (n : Nat) : 0 < bJ n := by
 unfold bJ;split
 ·omega
 ·exact Nat.two_pow_pos _
theorem qI {n:Nat} (h:6<=n):bJ n*64=2 ^ n:=by
 unfold bJ;split
 ·obtain rfl:n=6:=by omega
  rfl
 ·have:n=(n-6)+6:=by omega
  rw [this,Nat.pow_add];simp
theorem TV.Ok.word {t:TV} (h:t.Ok) {i:Nat} (hi:i<bJ t.n):jU (t.ws.getD i 0)/\t.ws.getD i 0∈t.ws/\t.ws[i]?=some (t.ws.getD i 0):=by
 have hl:i<t.ws.length:=by rw [h.len];exact hi
 have e:t.ws[i]?=some (t.ws.getD i 0):=by rw [List.getD_eq_getElem?_getD,List.getElem?_eq_getElem hl];rfl
 have hm:=List.mem_of_getElem? e;exact ⟨h.u _ hm,hm,e⟩
theorem nz {n x:Nat} (hx:x<2 ^ n):x/64<bJ n:=by
 by_cases h:6<=n
 ·have:=qI h;omega
 ·have:(2:Nat) ^ n<=2 ^ 6:=Nat.pow_le_pow_right (by omega) (by omega)
  unfold bJ;rw [if_pos (by omega)];omega
theorem TV.ext {t u:TV} (ht:t.Ok) (hu:u.Ok) (hn:t.n=u.n) (h:∀ x,x<2 ^ t.n->t.bit x=u.bit x):t=u:=by
 obtain ⟨n,ws⟩:=t;obtain ⟨m,vs⟩:=u
 simp only at hn;subst hn
 congr 1
 apply List.ext_getElem?
 intro i
 by_cases hi:i<bJ n
 ·obtain ⟨a1,a2,a3⟩:=ht.word (i:=i) hi
  obtain ⟨b1,b2,b3⟩:=hu.word (i:=i) hi
  show ws[i]?=vs[i]?
  have a3':ws[i]?=some (ws.getD i 0):=a3;have b3':vs[i]?=some (vs.getD i 0):=b3;rw [a3',b3']
  congr 1
  refine L9 a1 b1 fun j hj=>?_
  by_cases h6:6<=n
  ·have hw:=qI h6
   have:=h (64*i+j) (by show 64*i+j<2 ^ n;omega);unfold TV.bit at this;rw [show (64*i+j)/64=i by omega,show (64*i+j) % 64=j by omega] at this;exact this
  ·have sG:i=0:=by unfold bJ at hi;rw [if_pos (by omega)] at hi;omega
   subst sG
   by_cases oJ:j<2 ^ n
   ·have:=h j oJ
    unfold TV.bit at this;rw [show j/64=0 by omega,show j % 64=j by omega] at this;exact this
   ·rw [ht.low (by simpa using h6) _ a2 j (by simpa using oJ),hu.low (by simpa using h6) _ b2 j (by simpa using oJ)]
 ·have e1:=ht.len
  have e2:=hu.len
  simp only at e1 e2
  rw [List.getElem?_eq_none (by omega),List.getElem?_eq_none (by omega)]
def idx:Nat->(Nat->Bool)->Nat
 | 0,_=>0
 | n+1,y=>idx n y+if y n then 2 ^ n else 0
theorem G7:∀ (n:Nat) (y:Nat->Bool),idx n y<2 ^ n
 | 0,_=>by simp [idx]
 | n+1,y=>by
  have:=G7 n y
  have e:(2:Nat) ^ (n+1)=2 ^ n+2 ^ n:=by rw [Nat.pow_succ];omega
  unfold idx;split <;> omega
theorem jg:∀ (n:Nat) (y:Nat->Bool) (v:Nat),(idx n y).testBit v=(decide (v<n)&&y v)
 | 0,y,v=>by simp [idx]
 | n+1,y,v=>by
  have hl:=G7 n y;have ih:=jg n y v;unfold idx
  by_cases hy:y n=true
  ·rw [if_pos hy,Nat.add_comm]
   by_cases hv:v=n
   ·subst hv
    rw [Nat.testBit_two_pow_add_eq,Nat.testBit_lt_two_pow hl]
    simp [hy]
   ·by_cases wZ:v<n
    ·rw [Nat.testBit_two_pow_add_gt wZ,ih]
     simp [wZ,show v<n+1 by omega]
    ·have h2:2 ^ n+idx n y<2 ^ v:=by
      have e:(2:Nat) ^ (n+1)=2 ^ n+2 ^ n:=by rw [Nat.pow_succ];omega
      have:(2:Nat) ^ (n+1)<=2 ^ v:=Nat.pow_le_pow_right (by omega) (by omega);omega
     rw [Nat.testBit_lt_two_pow h2]
     simp [show ¬ v<n+1 by omega]
  ·rw [if_neg hy,Nat.add_zero,ih]
   by_cases hv:v=n
   ·subst hv;simp [hy]
   ·have:(v<n)↔(v<n+1):=by omega
    simp [this]
theorem TR {n x:Nat} (hx:x<2 ^ n):idx n (fun v=>x.testBit v)=x:=by
 apply Nat.eq_of_testBit_eq
 intro v
 rw [jg]
 by_cases hv:v<n
 ·simp [hv]
 ·have:x<2 ^ v:=Nat.lt_of_lt_of_le hx (Nat.pow_le_pow_right (by omega) (by omega))
  rw [Nat.testBit_lt_two_pow this];simp [hv]
def fP (x v:Nat) (b:Bool):Nat:=if x.testBit v=b then x else if b then x+2 ^ v else x-2 ^ v
theorem Md {x v:Nat} (h:x.testBit v=false) (u:Nat):(x+2 ^ v).testBit u=if u=v then true else x.testBit u:=by
 by_cases hu:u=v
 ·subst hu;rw [if_pos rfl,Nat.add_comm,Nat.testBit_two_pow_add_eq,h];rfl
 ·rw [if_neg hu]
  have e:x+2 ^ v=x ||| 2 ^ v:=by
   have hd:=Nat.div_add_mod x (2 ^ (v+1))
   have hm:x % 2 ^ (v+1)<2 ^ v:=by
    have h1:x % 2 ^ (v+1)<2 ^ (v+1):=Nat.mod_lt _ (Nat.two_pow_pos _)
    have h2:(x % 2 ^ (v+1)).testBit v=false:=by rw [Nat.testBit_mod_two_pow,h];simp
    by_cases Qh:2 ^ v<=x % 2 ^ (v+1)
    ·exfalso
     have e2:(2:Nat) ^ (v+1)=2 ^ v+2 ^ v:=by rw [Nat.pow_succ];omega
     have e3:x % 2 ^ (v+1)=2 ^ v+(x % 2 ^ (v+1)-2 ^ v):=by omega
     rw [e3,Nat.testBit_two_pow_add_eq,Nat.testBit_lt_two_pow (by omega)] at h2;cases h2
    ·omega
   apply Nat.eq_of_testBit_eq
   intro i
   have e4:x+2 ^ v=2 ^ (v+1)*(x/2 ^ (v+1))+(2 ^ v+x % 2 ^ (v+1)):=by omega
   have e5:2 ^ v+x % 2 ^ (v+1)<2 ^ (v+1):=by
    have e2:(2:Nat) ^ (v+1)=2 ^ v+2 ^ v:=by rw [Nat.pow_succ];omega
    omega
   rw [e4,Nat.testBit_two_pow_mul_add _ e5,Nat.testBit_or,Nat.testBit_two_pow];have h6:=Nat.testBit_mod_two_pow x (v+1) i
   have h7:x.testBit i=if i<v+1 then (x % 2 ^ (v+1)).testBit i else (x/2 ^ (v+1)).testBit (i-(v+1)):=by
    split
    ·rename_i hi;rw [h6];simp [hi]
    ·rename_i hi;rw [Nat.testBit_div_two_pow];congr 1;omega
   rw [h7]
   by_cases hi:i<v+1
   ·rw [if_pos hi,if_pos hi]
    by_cases hiv:i=v
    ·subst hiv;rw [Nat.testBit_two_pow_add_eq,Nat.testBit_lt_two_pow hm];simp
    ·rw [Nat.testBit_two_pow_add_gt (by omega)];simp [Ne.symm hiv]
   ·rw [if_neg hi,if_neg hi]
    have:¬ v=i:=by omega
    simp [this]
  rw [e,Nat.testBit_or,Nat.testBit_two_pow]
  simp [Ne.symm hu]
theorem jA (x v:Nat) (b:Bool) (u:Nat):(fP x v b).testBit u=if u=v then b else x.testBit u:=by
 unfold fP
 by_cases h:x.testBit v=b
 ·rw [if_pos h]
  by_cases hu:u=v
  ·subst hu;rw [if_pos rfl];exact h
  ·rw [if_neg hu]
 ·rw [if_neg h]
  cases b with
  | true =>
   have h':x.testBit v=false:=by simpa using h
   rw [if_pos rfl,Md h']
  | false =>
   have h':x.testBit v=true:=by simpa using h
   have Qh:2 ^ v<=x:=Nat.ge_two_pow_of_testBit h'
   have h0:(x-2 ^ v).testBit v=false:=by
    cases e:(x-2 ^ v).testBit v with
    | false=>rfl
    | true =>
     have:=Nat.testBit_two_pow_add_eq (x-2 ^ v) v
     rw [Nat.add_comm,Nat.sub_add_cancel Qh,h',e] at this;cases this
   have:=Md h0 u;rw [Nat.sub_add_cancel Qh] at this
   simp only [Bool.false_eq_true,if_false]
   by_cases hu:u=v
   ·subst hu;rw [if_pos rfl];exact h0
   ·rw [if_neg hu] at this ⊢;exact this.symm
theorem G8 {x v n:Nat} (b:Bool) (hx:x<2 ^ n) (hv:v<n):fP x v b<2 ^ n:=by
 apply Nat.lt_pow_two_of_testBit
 intro i hi
 rw [jA,if_neg (by omega)];exact Nat.testBit_lt_two_pow (Nat.lt_of_lt_of_le hx (Nat.pow_le_pow_right (by omega) hi))
theorem TS {n v:Nat} (hv:v<n) (y:Nat->Bool) (b:Bool):fP (idx n y) v b=idx n (upd y v b):=by
 apply Nat.eq_of_testBit_eq
 intro u
 rw [jA,jg,jg]
 by_cases hu:u=v
 ·subst hu;simp [hv,upd]
 ·simp [hu,upd]
def TV.fn (t:TV) (y:Nat->Bool):Bool:=t.bit (idx t.n y)
theorem TV.yE {t u:TV} (ht:t.Ok) (hu:u.Ok) (hn:t.n=u.n) (h:∀ y,t.fn y=u.fn y):t=u :=
 TV.ext ht hu hn fun x hx=>by
  have:=h fun v=>x.testBit v
  unfold TV.fn at this;rw [TR hx,<- hn,TR hx] at this;exact this
theorem TV.AU (t:TV) {x y:Nat->Bool} (h:∀ v,v<t.n->x v=y v):t.fn x=t.fn y:=by
 have:idx t.n x=idx t.n y:=by
  apply Nat.eq_of_testBit_eq
  intro v
  rw [jg,jg]
  by_cases hv:v<t.n
  ·simp [hv,h v hv]
  ·simp [hv]
 unfold TV.fn;rw [this]
end Go.Proofs.YtfkopmhpppeheaaGreat
namespace Go.Proofs.YtfkopmhpppeheaaGreat
open Go.RowKit
def rU (n:Nat) (f:Nat->Bool):TV:=⟨n,(List.range (bJ n)).map fun i=>((idx 64 fun j=>decide (64*i+j<2 ^ n)&&f (64*i+j):Nat):Int)⟩
theorem jV (m i:Nat):nb (m:Int) i=m.testBit i:=by simp [nb]
theorem TU (n:Nat) (f:Nat->Bool) {i:Nat} (hi:i<bJ n):(rU n f).ws.getD i 0=((idx 64 fun j=>decide (64*i+j<2 ^ n)&&f (64*i+j):Nat):Int):=by
 rw [List.getD_eq_getElem?_getD]
 simp [rU,hi]
theorem nC {n:Nat} (f:Nat->Bool) (hn:n<=16):(rU n f).Ok:=by
 refine ⟨hn,by simp [rU],fun x hx=>?_,fun h6 x hx i hi=>?_⟩
 ·simp only [rU,List.mem_map] at hx
  obtain ⟨i,_,rfl⟩:=hx
  have:=G7 64 fun j=>decide (64*i+j<2 ^ n)&&f (64*i+j)
  unfold jU;omega
 ·have h6':n<6:=h6
  have yF:2 ^ n<=i:=hi
  simp only [rU,List.mem_map,List.mem_range] at hx
  obtain ⟨j,hj,rfl⟩:=hx
  have hj0:j=0:=by unfold bJ at hj;rw [if_pos (by omega)] at hj;omega
  subst hj0;rw [jV,jg]
  simp;intro _ h;omega
theorem G9 {n:Nat} (f:Nat->Bool) {x:Nat} (hx:x<2 ^ n):(rU n f).bit x=f x:=by
 unfold TV.bit;rw [TU n f (nz hx),jV,jg]
 have e:64*(x/64)+x % 64=x:=by omega
 simp only [e,hx,decide_true,Bool.true_and]
 have:x % 64<64:=Nat.mod_lt _ (by omega)
 simp [this]
theorem OO (n:Nat) (f:Nat->Bool):(rU n f).n=n:=rfl
theorem Me {t:TV} (ht:t.Ok) {f:Nat->Bool} (h:∀ x,x<2 ^ t.n->t.bit x=f x):t=rU t.n f :=
 TV.ext ht (nC f ht.n16) rfl fun x hx=>by rw [h x hx,G9 f hx]
theorem yG {n:Nat} (f:Nat->Bool) (y:Nat->Bool):(rU n f).fn y=f (idx n y):=by
 unfold TV.fn;rw [OO,G9 f (G7 n y)]
def nD (n:Nat) (b:Bool):TV:=rU n fun _=>b
def TW (n v:Nat):TV:=rU n fun x=>x.testBit v
def cO (t:TV) (v:Nat) (b:Bool):TV:=rU t.n fun x=>t.bit (fP x v b)
theorem FK (n:Nat) (b:Bool) (y:Nat->Bool):(nD n b).fn y=b:=yG _ y
theorem iG {t:TV} {v:Nat} (hv:v<t.n) (b:Bool) (y:Nat->Bool):(cO t v b).fn y=t.fn (upd y v b):=by
 unfold cO;rw [yG,TS hv];rfl
theorem qJ {t:TV} (ht:t.Ok) (v:Nat) (b:Bool):(cO t v b).Ok:=nC _ ht.n16
def oW (t:TV) (v:Nat):Bool:=!decide (cO t v false=cO t v true)
theorem nG {t:TV} (ht:t.Ok) {v:Nat} (hv:v<t.n):oW t v=true↔jI t.fn v:=by
 unfold oW;rw [Bool.not_eq_true',decide_eq_false_iff_not];constructor
 ·intro hne
  by_cases hh:∃ y,t.fn (upd y v true)≠t.fn (upd y v false)
  ·exact hh
  ·exfalso
   refine hne (TV.yE (qJ ht v false) (qJ ht v true) rfl fun y=>?_);rw [iG hv,iG hv]
   by_cases h:t.fn (upd y v false)=t.fn (upd y v true)
   ·exact h
   ·exact absurd ⟨y,fun e=>h e.symm⟩ hh
 ·rintro ⟨y,hy⟩ e
  exact hy (by rw [<- iG hv true y,<- iG hv false y,e])
theorem Jn {x v:Nat} (b:Bool) (hv:v<6):fP x v b/64=x/64/\fP x v b % 64=fP (x % 64) v b:=by
 constructor
 ·apply Nat.eq_of_testBit_eq
  intro i
  rw [show (64:Nat)=2 ^ 6 from rfl,Nat.testBit_div_two_pow,Nat.testBit_div_two_pow,jA,if_neg (by omega)]
 ·apply Nat.eq_of_testBit_eq
  intro i
  rw [show (64:Nat)=2 ^ 6 from rfl,Nat.testBit_mod_two_pow,jA,jA,Nat.testBit_mod_two_pow]
  by_cases h:i=v
  ·subst h;simp [hv]
  ·simp [h]
theorem OQ {x v:Nat} (b:Bool) (hv:6<=v):fP x v b/64=fP (x/64) (v-6) b/\fP x v b % 64=x % 64:=by
 constructor
 ·apply Nat.eq_of_testBit_eq
  intro i
  rw [show (64:Nat)=2 ^ 6 from rfl,Nat.testBit_div_two_pow,jA,jA,Nat.testBit_div_two_pow]
  by_cases h:i=v-6
  ·subst h;rw [if_pos (by omega),if_pos rfl]
  ·rw [if_neg (by omega),if_neg h]
 ·apply Nat.eq_of_testBit_eq
  intro i
  rw [show (64:Nat)=2 ^ 6 from rfl,Nat.testBit_mod_two_pow,Nat.testBit_mod_two_pow,jA]
  by_cases h:i<6
  ·simp [h,show i≠v by omega]
  ·simp [h]
theorem TY:jU 0:=by unfold jU;omega
theorem abI {x:Int} (hx:jU x) (k i:Nat):jU (x/2 ^ k)/\nb (x/2 ^ k) i=nb x (i+k):=by
 obtain ⟨n,rfl⟩ : ∃ n:Nat,x=(n:Int):=⟨x.toNat,by unfold jU at hx;omega⟩
 have e:((n:Int)/2 ^ k)=((n/2 ^ k:Nat):Int):=by push_cast;rfl
 refine ⟨?_,?_⟩
 ·rw [e]
  have h1:=Nat.div_le_self n (2 ^ k);generalize n/2 ^ k=m at h1 ⊢
  unfold jU at hx ⊢;omega
 ·rw [e,jV,jV,Nat.testBit_div_two_pow,Nat.add_comm]
theorem abJ {x:Int} (hx:jU x) (k i:Nat):nb (IntKind.u64.wrap (x*2 ^ k)) i=(decide (i<64)&&(decide (k<=i)&&nb x (i-k))):=by
 obtain ⟨n,rfl⟩ : ∃ n:Nat,x=(n:Int):=⟨x.toNat,by unfold jU at hx;omega⟩
 have e:IntKind.u64.wrap ((n:Int)*2 ^ k)=((n*2 ^ k % 18446744073709551616:Nat):Int):=by
  have h1:IntKind.u64.wrap ((n:Int)*2 ^ k)=((n:Int)*2 ^ k) % 18446744073709551616:=rfl
  have h2:(n:Int)*2 ^ k=((n*2 ^ k:Nat):Int):=by push_cast;rfl
  rw [h1,h2];generalize n*2 ^ k=m;omega
 rw [e,jV,jV,show (18446744073709551616:Nat)=2 ^ 64 from rfl,Nat.testBit_mod_two_pow,Nat.testBit_mul_two_pow]
def oC (v:Nat) (b:Bool) (gY w:Int):Int :=
 if b then bits BinOp.or IntKind.u64 (bits BinOp.and IntKind.u64 w gY) (bits BinOp.and IntKind.u64 w gY/2 ^ (2 ^ v))
 else bits BinOp.or IntKind.u64 (bits BinOp.andNot IntKind.u64 w gY) (IntKind.u64.wrap (bits BinOp.andNot IntKind.u64 w gY*2 ^ (2 ^ v)))
theorem FM:∀ v,v<6->∀ i,i<64->(((i+2 ^ v).testBit v=!i.testBit v)/\(i.testBit v=true->2 ^ v<=i/\(i-2 ^ v).testBit v=false)/\(2 ^ v<=i->i.testBit v=false->(i-2 ^ v).testBit v=true)):=by decide +kernel
theorem BK {v:Nat} (hv:v<6) (b:Bool) {gY w:Int} (hw:jU w) (ho:jU gY) (TM:∀ i,i<64->nb gY i=i.testBit v):jU (oC v b gY w)/\∀ i,i<64->nb (oC v b gY w) i=nb w (fP i v b):=by
 have p6:(2:Nat) ^ v<=32:=by
  have:(2:Nat) ^ v<=2 ^ 5:=Nat.pow_le_pow_right (by omega) (by omega);omega
 unfold oC
 cases b with
 | true =>
  rw [if_pos rfl];have hA:=sU BinOp.and w gY
  have hS:=fun i=>abI hA (2 ^ v) i
  refine ⟨sU _ _ _,fun i hi=>?_⟩;obtain ⟨f1,f2,f3⟩:=FM v hv i hi;rw [ZY hA (hS 0).1,(hS i).2,L8 hw ho,L8 hw ho,TM i hi];unfold fP
  cases hb:i.testBit v with
  | true =>
   rw [if_pos rfl]
   have:nb gY (i+2 ^ v)=false:=by
    by_cases h64:i+2 ^ v<64
    ·rw [TM _ h64,f1,hb];rfl
    ·exact G6 ho (by omega)
   rw [this];simp
  | false =>
   simp only [Bool.false_eq_true,if_false,if_true,Bool.and_false,Bool.false_or]
   by_cases h64:i+2 ^ v<64
   ·rw [TM _ h64,f1,hb];simp
   ·rw [G6 hw (by omega)];simp
 | false =>
  simp only [Bool.false_eq_true,if_false]
  have hA:=sU BinOp.andNot w gY;refine ⟨sU _ _ _,fun i hi=>?_⟩;obtain ⟨f1,f2,f3⟩:=FM v hv i hi;have mr:=Nat.sub_le i (2 ^ v);rw [ZY hA (wrap_u64 _),abJ hA,yD hw ho hi,TM i hi];unfold fP
  cases hb:i.testBit v with
  | true =>
   obtain ⟨g1,g2⟩:=f2 hb
   simp only [Bool.not_true,Bool.and_false,Bool.false_or,hi,decide_true,Bool.true_and,g1]
   rw [yD hw ho (by omega),TM _ (by omega),g2];simp
  | false =>
   rw [if_pos rfl]
   simp only [Bool.not_false,Bool.and_true,hi,decide_true,Bool.true_and]
   by_cases hle:2 ^ v<=i
   ·rw [yD hw ho (by omega),TM _ (by omega),f3 hle hb];simp
   ·simp [hle]
theorem XZ {t:TV} (ht:t.Ok) {v:Nat} (hv:v<6) (wZ:v<t.n) (b:Bool) {gY:Int} (ho:jU gY) (TM:∀ i,i<64->nb gY i=i.testBit v):cO t v b=⟨t.n,t.ws.map (oC v b gY)⟩:=by
 have dJ:(⟨t.n,t.ws.map (oC v b gY)⟩ : TV).Ok:=by
  refine ⟨ht.n16,by simp [ht.len],fun x hx=>?_,fun h6 x hx i hi=>?_⟩
  ·obtain ⟨w,hw,rfl⟩:=List.mem_map.1 hx
   exact (BK hv b (ht.u w hw) ho TM).1
  ·obtain ⟨w,hw,rfl⟩:=List.mem_map.1 hx
   have hc:=BK hv b (ht.u w hw) ho TM
   by_cases h64:i<64
   ·rw [hc.2 i h64]
    have h6':t.n<6:=h6;have yF:2 ^ t.n<=i:=hi;refine ht.low h6' w hw _ ?_
    by_cases aW:fP i v b<2 ^ t.n
    ·exfalso
     have:fP (fP i v b) v (i.testBit v)=i:=by
      apply Nat.eq_of_testBit_eq
      intro u
      rw [jA,jA]
      by_cases hu:u=v
      ·subst hu;simp
      ·simp [hu]
     have h2:=G8 (i.testBit v) aW wZ
     rw [this] at h2;omega
    ·omega
   ·exact G6 hc.1 (by omega)
 refine (Me dJ fun x hx=>?_).symm;have hd:=nz (n:=t.n) hx;obtain ⟨w1,w2,w3⟩:=ht.word hd;unfold TV.bit
 have e:(t.ws.map (oC v b gY)).getD (x/64) 0=oC v b gY (t.ws.getD (x/64) 0):=by
  rw [List.getD_eq_getElem?_getD,List.getElem?_map,w3];rfl
 show nb ((t.ws.map (oC v b gY)).getD (x/64) 0) (x % 64)=nb (t.ws.getD (fP x v b/64) 0) (fP x v b % 64)
 rw [e,(BK hv b w1 ho TM).2 _ (Nat.mod_lt _ (by omega)),(Jn b hv).1,(Jn b hv).2]
theorem abL {t:TV} (ht:t.Ok) {v:Nat} (hv:6<=v) (wZ:v<t.n) (b:Bool):cO t v b=⟨t.n,(List.range t.ws.length).map fun i=>t.ws.getD (fP i (v-6) b) 0⟩:=by
 have hw:=qI (n:=t.n) (by omega);have hlen:=ht.len
 have hp:(2:Nat) ^ t.n=2 ^ (t.n-6)*64:=by
  have:t.n=(t.n-6)+6:=by omega
  conv=>lhs;rw [this,Nat.pow_add]
 have hwp:bJ t.n=2 ^ (t.n-6):=by omega
 have hsl:∀ i,i<bJ t.n->fP i (v-6) b<bJ t.n:=fun i hi=>by
  rw [hwp] at hi ⊢;exact G8 b hi (by omega)
 have dJ:(⟨t.n,(List.range t.ws.length).map fun i=>t.ws.getD (fP i (v-6) b) 0⟩ : TV).Ok:=by
  refine ⟨ht.n16,by simp [hlen],fun x hx=>?_,fun h6 x hx i hi=>?_⟩
  ·obtain ⟨i,hi,rfl⟩:=List.mem_map.1 hx
   rw [List.mem_range,hlen] at hi;exact (ht.word (hsl i hi)).1
  ·have h6':t.n<6:=h6
   omega
 refine (Me dJ fun x hx=>?_).symm;have hd:=nz (n:=t.n) hx;unfold TV.bit
 have e:((List.range t.ws.length).map fun i=>t.ws.getD (fP i (v-6) b) 0).getD (x/64) 0=t.ws.getD (fP (x/64) (v-6) b) 0:=by
  rw [List.getD_eq_getElem?_getD,List.getElem?_map,List.getElem?_range (by omega)];rfl
 show nb (((List.range t.ws.length).map fun i=>t.ws.getD (fP i (v-6) b) 0).getD (x/64) 0) (x % 64)=nb (t.ws.getD (fP x v b/64) 0) (fP x v b % 64)
 rw [e,(OQ b hv).1,(OQ b hv).2]
end Go.Proofs.YtfkopmhpppeheaaGreat
namespace Go.Proofs.YtfkopmhpppeheaaGreat
structure Plain (K:KV) (n m:Nat):Prop where
 ok:K.Ok
 uni:K.Uni
 vr:K.vars=n
 lv:∀ v,v<n->K.lev v=v
 pl:K.A.places=m
theorem Qi {n m:Nat} (h1:1<=n) (hn:n<=64) (h2:2<=m) (hm:m<=1048576):Plain (KV.new n m) n m:=by
 refine ⟨KV.vG h1 hn h2 hm,(dW.new n m).uni (KV.vG h1 hn h2 hm).wf,rfl,fun v hv=>by simp [KV.lev,KV.new,hv],rfl⟩
theorem KV.Made.abM {K K':KV} {v lo hi r:Nat} (M:K.Made v lo hi r K') {s u lo' yF:Nat}:K'.At s u lo' yF↔(s=r/\u=v/\lo'=lo/\yF=hi)\/K.At s u lo' yF:=by
 constructor
 ·intro h
  obtain ⟨h2,p,hp,aH,e1,e2,e3⟩:=h
  by_cases e:s=r
  ·subst e
   rw [M.at_] at hp;cases hp
   simp at e1 e2 e3
   exact .inl ⟨rfl,by omega,e2.symm,e3.symm⟩
  ·have ht:K'.A.tk s=true:=ag.aP.2 ⟨p,hp,aH⟩
   rw [M.tk] at ht
   simp [e] at ht
   obtain ⟨p',jo,lQ⟩:=ag.aP.1 ht;have:=M.ext.nd s p' jo lQ
   rw [hp] at this;cases this
   exact .inr ⟨h2,p,jo,aH,e1,e2,e3⟩
 ·rintro (⟨rfl,rfl,rfl,rfl⟩ | ⟨h2,p,hp,aH,rest⟩)
  ·exact ⟨M.two,_,M.at_,rfl,rfl,rfl,rfl⟩
  ·exact ⟨h2,p,M.ext.nd s p hp aH,aH,rest⟩
end Go.Proofs.YtfkopmhpppeheaaGreat
namespace Go.Proofs.YtfkopmhpppeheaaGreat
open Go.RowKit Go.Maps Go.ChangeMaps Go.WideShapes
structure TZ (b:Nat) (v:Int) (lo hi:Nat) (K:KV) (q:aA) (w:World) (e:Ending) (w':World):Prop where
 ex:∃ (r:Nat) (code:Int) (K':KV) (T':List DM) (q':aA),e=.returned (.tuple #[.int .u32 r,.int .i64 code])/\jJ K v lo hi r code K'/\bV w' b K' T' q'/\af (q.all b) w w'/\Sub (q.all b) w (q'.all b)
theorem Ua (b:Nat) (v:Int) (K:KV) (T:List DM) (q:aA) (w:World) (h:bV w b K T q) :
  Calls Tryz.prog 78 #[.pointer (some ⟨b,0,none⟩),.int .i64 v] w fun e w'=>TZ b v 0 1 K q w e w':=by
 have HK:=Lib.hid h;clear h
 go_enter Tryz.func78,Tryz.ntmps78
 go_wp2_with fail;refine (yH b v 0 1 K T q w HK.out (by omega) (by omega)).mono ?_;rintro e w1 ⟨r,code,K',T',q',rfl,hE⟩;have HE:=Lib.hid hE;clear hE;go_wp2_with fail;go_ret2;exact ⟨r,code,K',T',q',rfl,HE.out⟩
end Go.Proofs.YtfkopmhpppeheaaGreat
