import Derived.Test.YtfkopmhpppeheaaGreatPY12
import Derived.Test.YtfkopmhpppeheaaGreatPY11
import Derived.Test.YtfkopmhpppeheaaGreatPY21
set_option maxRecDepth 100000
set_option maxHeartbeats 6400000
namespace Go.Proofs.YtfkopmhpppeheaaGreat
open Go.RowKit Go.Maps Go.ChangeMaps Go.WideShapes
def u64m (n:Nat):Int:=((n % 18446744073709551616:Nat):Int)
theorem u64m_wf (n:Nat):(Lit.int .u64 (u64m n)).wf=true:=by
 unfold u64m;exact wfU (by have:=Nat.mod_lt n (show 0<18446744073709551616 by omega);omega)
theorem u64m_wrap (n:Nat):IntKind.u64.wrap (n:Int)=u64m n:=by rw [IntKind.wrap_u64];unfold u64m;omega
theorem u64m_add (a c:Nat):IntKind.u64.wrap (u64m a+u64m c)=u64m (a+c):=by
 rw [IntKind.wrap_u64];unfold u64m;omega
theorem u64m_mul (a k:Nat):IntKind.u64.wrap (u64m a*(k:Int))=u64m (a*k):=by
 rw [IntKind.wrap_u64];unfold u64m
 have e:∀ m:Nat,((m:Int) % 18446744073709551616)=((m % 18446744073709551616:Nat):Int):=fun m=>by omega
 rw [<- Int.natCast_mul,e,Nat.mul_mod,Nat.mod_mod,<- Nat.mul_mod]
theorem u64m_small {n:Nat} (h:n<2):u64m n=n:=by unfold u64m;omega
theorem enters_paths:Enters 186:=fun args w=>by simp [go_sem]
theorem cb_paths (x y z:Int) (a c:Nat) (w:World) :
  Calls Tryz.prog 186 #[.agg #[.int .i64 x,.int .u32 y,.int .u32 z],.int .u64 (u64m a),.int .u64 (u64m c)] w fun e w'=>e=.returned (.int .u64 (u64m (a+c)))/\Upd [] w w':=by
 have HA:=Lib.hid (u64m_add a c);generalize u64m (a+c)=g at *;generalize u64m a=a1 at *;generalize u64m c=c1 at *
 go_enter Tryz.func186,Tryz.ntmps186
 go_wp2_with fail;go_ret;exact ⟨by rw [<- HA.out];rfl,(Upd.refl _ _).alloc _⟩
theorem row_one (w:World) (f:Nat):(w.alloc (.cells #[.int .u32 f] 77 (0,0))).ownsRow 0 77 1 (.slice (some ⟨w.heap.size,0,none⟩) 1 1) [f].length (flatRefs [f]) :=
 World.ownsRow_lit (base:=0) (e:=77) (size:=1) w #[.int .u32 f] 1 (Nat.zero_le _) (by unfold maxLen;omega) rfl
structure AskQ2 (b:Nat) (K:KV) (T:List DM) (q:KPtr) (v:Value) (w:World) (e:Ending) (w':World):Prop where
 e:e=.returned (.tuple #[v,.int .i64 0])
 k:KerIn w' b K T q
 u:Upd [] w w'
theorem paths_spec (b f:Nat) (K:KV) (T:List DM) (q:KPtr) (w:World) (h:KerIn w b K T q) (hf:K.A.tk f=true) :
  Calls Tryz.prog 114 #[.pointer (some ⟨b,0,none⟩),.int .u32 f] w fun e w'=>AskQ2 b K T q (.int .u64 (u64m (K.way f))) w e w':=by
 have HK:=Lib.hid h
 have HL:Hid (∀ r,r∈[f]->K.A.tk r=true):=fun r hr=>by
  simp only [List.mem_singleton] at hr;subst hr;exact hf
 have HF:=Lib.hid hf
 have HCB:Hid (∀ w,FoldCb 186 #[] K (fun r=>u64m (K.way r)) (fun z=>Upd [] w z)):=fun w z r p _ h2 hp hpt=>by
  show Calls _ _ _ _ fun e w'=>e=.returned (.int .u64 (u64m (K.way r)))/\_
  rw [KV.way_node HK.out.ok.wf HK.out.ok.ord h2 hp hpt];exact cb_paths _ _ _ _ _ z
 clear h hf
 go_enter Tryz.func114,Tryz.ntmps114
 go_wp2_with fail;refine (clive_ok b K T q _ [f] _ (HK.out.upd ((Upd.refl [] w).alloc _) (by simp)) (row_one w f) HL.out (by simp)).mono ?_;rintro e w1 ⟨rfl,hu⟩;have HU1:=Lib.hid (((Upd.refl [] w).alloc _).trans hu);clear hu;go_wp2_with fail;refine (fold_spec b 186 f #[] K T q (fun r=>u64m (K.way r)) w1 (HK.out.upd HU1.out (by simp)) enters_paths (HCB.out w1) (fun x=>u64m_wf _) (by rw [K.way_const (by omega)];exact u64m_small (by omega)) (by rw [K.way_const (by omega)];exact u64m_small (by omega)) HF.out).mono ?_;rintro e w2 ⟨rfl,hu,hk2⟩;have HE:=Lib.hid (And.intro hk2 (HU1.out.trans hu));clear hu hk2;go_wp2_with fail;go_ret2;exact ⟨rfl,HE.out.1,HE.out.2⟩
theorem enters_size:Enters 126:=fun args w=>by simp [go_sem]
def sizStep (s:Int) (_:Nat):Int:=wrap64 (s+1)
theorem cb_size (sb:Nat):CbOk 126 #[.pointer (some ⟨sb,0,none⟩)] sb 3 (fun s=>.int .i64 s) sizStep:=fun w s n lo hi hn hb=>by
 have hlt:=heap_lt hb;have e1:(w.alloc (.cells #[.int .i64 (n:Int),.int .u32 lo,.int .u32 hi] 116 (0,0))).heap[sb]?=_:=(heap_alloc_old _ _ hlt).trans hb;have c1:=cell_at (j:=0) e1 rfl;have f1:=frozen_at 0 e1;have HB:=Lib.hid (And.intro hb e1);clear hb e1
 show Calls _ _ #[.agg #[.int .i64 (n:Int),.int .u32 lo,.int .u32 hi],.pointer (some ⟨sb,0,none⟩)] _ _
 go_enter Tryz.func126,Tryz.ntmps126
 go_wp2_with fail;go_end0;refine ⟨rfl,?_,?_⟩
 ·have e:=heap_set_eq (j:=0) HB.out.1 (.int .i64 (wrap64 (s+1)))
  exact (heap_alloc_old _ _ (heap_lt e)).trans e
 ·exact ((Upd.refl [sb] w).setCell (p:=⟨sb,0,none⟩) (.inl (by simp)) _).alloc _
theorem siz_fold (f:Nat->Nat):∀ (N:List Nat) (s:Nat),s+N.length<=1048576->N.foldl (fun s x=>sizStep s (f x)) (s:Int)=((s+N.length:Nat):Int)
 | [],s,_=>by simp
 | x::N,s,h=>by
  simp only [List.length_cons] at h
  have e:sizStep (s:Int) (f x)=((s+1:Nat):Int):=by
   unfold sizStep;rw [IntWalk.wrap64_in _ (by omega)];omega
  rw [List.foldl_cons,e,siz_fold f N (s+1) (by omega)]
  simp only [List.length_cons];omega
structure WalkA (K:KV) (V rs N:List Nat):Prop where
 nd:(V++N).Nodup
 has:∀ r,r∈rs->2<=r->r∈V++N
 two:∀ x,x∈N->2<=x/\K.A.tk x=true
 under:∀ x,x∈N->∃ r,r∈rs/\K.Under r x
 kids:∀ (x:Nat) (p:PlaceV),x∈N->K.A.list[x]?=some p->(p.lo<2\/p.lo∈V++N)/\(p.hi<2\/p.hi∈V++N)
theorem WalkL.alls {K:KV} {V rs N:List Nat} (h:WalkL K V rs N):V.Nodup->WalkA K V rs N:=by
 induction h with
 | nil V=>intro hv;exact ⟨by simpa using hv,by simp,by simp,by simp,by simp⟩
 | @cons V N N' r rs h t ih =>
  intro hv
  have a:=ih h.nd
  have e:V++(N++N')=V++N++N':=by simp
  refine ⟨by rw [e];exact a.nd,fun s hs h2=>?_,fun x hx=>?_,fun x hx=>?_,fun x p hx hp=>?_⟩
  ·rw [e]
   rcases List.mem_cons.1 hs with rfl | hs
   ·exact List.mem_append.2 (.inl (h.has h2))
   ·exact a.has s hs h2
  ·rcases List.mem_append.1 hx with hx | hx
   ·exact h.two x hx
   ·exact a.two x hx
  ·rcases List.mem_append.1 hx with hx | hx
   ·exact ⟨r,by simp,h.under x hx⟩
   ·obtain ⟨s,hs,hu⟩:=a.under x hx
    exact ⟨s,by simp [hs],hu⟩
  ·rw [e]
   rcases List.mem_append.1 hx with hx | hx
   ·obtain ⟨k1,k2⟩:=h.kids x p hx hp
    exact ⟨k1.imp_right fun k=>List.mem_append.2 (.inl k),k2.imp_right fun k=>List.mem_append.2 (.inl k)⟩
   ·exact a.kids x p hx hp
theorem WalkL.len {K:KV} {rs N:List Nat} (h:WalkL K [] rs N) (hk:K.Ok):N.length<=1048574:=by
 have a:=h.alls List.nodup_nil
 have hn:(0::1::N).Nodup:=by
  have h0:(N).Nodup:=by simpa using a.nd
  refine List.nodup_cons.2 ⟨fun hm=>?_,List.nodup_cons.2 ⟨fun hm=>?_,h0⟩⟩
  ·rcases List.mem_cons.1 hm with h | h
   ·omega
   ·have:=(a.two 0 h).1;omega
  ·have:=(a.two 1 hm).1;omega
 have h1:=KV.used_ge hk.wf hn (fun x hx=>by
  rcases List.mem_cons.1 hx with rfl | hx
  ·exact hk.wf.ok.tk01.1
  ·rcases List.mem_cons.1 hx with rfl | hx
   ·exact hk.wf.ok.tk01.2
   ·exact (a.two x hx).2)
 have h2:=hk.wf.ok.us;have h3:=hk.wf.ok.pm;have h4:=hk.wf.ok.lp
 simp only [List.length_cons] at h1
 omega
structure SizQ (b:Nat) (K:KV) (T:List DM) (q:KPtr) (rs:List Nat) (w:World) (e:Ending) (w':World):Prop where
 ex:∃ N:List Nat,WalkL K [] rs N/\e=.returned (.tuple #[.int .i64 (N.length:Nat),.int .i64 0])/\KerIn w' b K T q/\Upd [] w w'
theorem size12_spec (b:Nat) (lv:Value) (rs:List Nat) (K:KV) (T:List DM) (q:KPtr) (w:World) (h:KerIn w b K T q) (hrow:w.ownsRow 0 77 1 lv rs.length (flatRefs rs)) (hl:∀ r,r∈rs->K.A.tk r=true) (hlen:rs.length<=1099511627776) :
  Calls Tryz.prog 54 #[.pointer (some ⟨b,0,none⟩),lv] w fun e w'=>SizQ b K T q rs w e w':=by
 have hmf:∀ (fn:Fn) (first cap:Array Value) (w:World),(Instr.makeFunc fn first cap).run Tryz.prog w=.ok (.func fn first cap) w:=fun _ _ _ _=>rfl
 obtain ⟨fa,fc,rfl,_⟩:=row_nil_len hrow;have HK:=Lib.hid h;have HL:=Lib.hid hl
 have HROW:Hid (∀ z,Upd [] w z->z.ownsRow 0 77 1 (.slice fa rs.length fc) rs.length (flatRefs rs)):=fun z u=>row_keep hrow fun k hk=>u.block k (hrow.lt k hk).2 (by simp)
 have HRL:Hid (∀ k,(Value.slice fa rs.length fc).ownBlock=some k->k<w.heap.size):=fun k hk=>(hrow.lt k hk).2
 clear h hl hrow
 go_enter Tryz.func54,Tryz.ntmps54
 go_wp2_with fail;refine (clive_ok b K T q _ rs _ HK.out (HROW.out w (Upd.refl _ _)) HL.out hlen).mono ?_;rintro e w1 ⟨rfl,hu⟩;have HU1:=Lib.hid hu;clear hu;go_wp2_with fail;have hsb:=heap_alloc_new w1 (.cells #[.int .i64 0] 3 (0,0));have HKA:=Lib.hid (HK.out.upd (HU1.out.alloc (.cells #[.int .i64 0] 3 (0,0))) (by simp))
 have hnq:w1.heap.size∉q.all b:=fun hm=>by
  have:=HK.out.mem.lt _ hm;have:=HU1.out.size;omega
 refine (below_spec b w1.heap.size 126 #[.pointer (some ⟨w1.heap.size,0,none⟩)] 3 (fun s=>.int .i64 s) sizStep K T q _ rs 0 _ enters_size (cb_size w1.heap.size) HKA.out hsb hnq (HROW.out _ (HU1.out.alloc _)) (fun e=>by have:=HRL.out _ e;have:=HU1.out.size;omega) HL.out hlen).mono ?_;rintro e w2 ⟨rfl,hQ⟩;obtain ⟨N,hN,hk2,hs2,hu2⟩:=hQ.ex;have hln:=hN.len HK.out.ok;have hfe:=siz_fold (fun x=>K.vof x) N 0 (by omega);rw [Nat.zero_add] at hfe;have e0:((0:Nat):Int)=0:=rfl;rw [e0] at hfe;rw [hfe] at hs2;have x0:=cell_at (j:=0) hs2 rfl
 have HE:Hid (WalkL K [] rs N/\KerIn w2 b K T q/\Upd [] w w2):=⟨hN,hk2,(HU1.out.alloc _).then hu2 fun x hx=>by
  simp at hx;subst hx;right;exact HU1.out.size⟩
 clear hQ hN hk2 hs2 hu2 hsb hnq hln hfe e0;go_wp2_with fail;go_ret2;exact ⟨N,HE.out.1,rfl,HE.out.2.1,HE.out.2.2⟩
theorem eval_spec (b f:Nat) (x:Int) (K:KV) (T:List DM) (q:KPtr) (w:World) (h:KerIn w b K T q) (hf:K.A.tk f=true) (hx:U64 x) :
  Calls Tryz.prog 112 #[.pointer (some ⟨b,0,none⟩),.int .u32 f,.int .u64 x] w fun e w'=>AskQ2 b K T q (.bool (K.den f fun v=>nb x v)) w e w':=by
 have HK:=Lib.hid h;have hvs:=h.ok.wf.vs;have HR:=Lib.hid hf;have HX:=Lib.hid hx
 have HL:Hid (∀ r,r∈[f]->K.A.tk r=true):=fun r hr=>by
  simp only [List.mem_singleton] at hr;subst hr;exact hf
 clear h hf;unfold U64 at hx
 go_enter Tryz.func112,Tryz.ntmps112
 go_wp2_with fail;refine (clive_ok b K T q _ [f] _ (HK.out.upd ((Upd.refl [] w).alloc _) (by simp)) (row_one w f) HL.out (by simp)).mono ?_;rintro e w1 ⟨rfl,hu⟩;have HU1:=Lib.hid (((Upd.refl [] w).alloc _).trans hu);clear hu;go_wp2_with fail
 go_loopg [1] 66 (fun g s1 wr=>∃ (i r':Nat),66-i=g/\i<=65/\s1=.int .u32 r'/\K.A.tk r'=true/\i<=K.dep r'/\(K.den r' (fun v=>nb x v)=K.den f (fun v=>nb x v))/\Upd [] w1 wr)
 case atStart=>exact ⟨0,f,by omega,by omega,rfl,HR.out,by omega,rfl,Upd.refl _ _⟩
 case round =>
  obtain ⟨i,r',rfl,hi,rfl,ht,hd,he,hU⟩:=hrel;have hdl:=HK.out.ok.wf.dep_le HK.out.ok.ord ht
  have hi64:i<=64:=by omega
  by_cases h2:r'<2
  ·have hd2:decide (r'<2)=true:=by simpa using h2
   have HCC:=Lib.hid (cconst_spec r' wr);rw [hd2] at HCC
   have HE:Hid (((r':Int) == 1)=K.den f fun v=>nb x v):=by
    show _=_
    rw [<- he,K.den_const (by omega),Bool.eq_iff_iff]
    simp only [beq_iff_eq];omega
   have HU:=Lib.hid (HU1.out.trans hU);have HKE:=Lib.hid (HK.out.upd HU.out (by simp));clear hU he hd ht hdl hd2 h2;go_wp2_with fail;refine HCC.out.mono ?_;rintro e w3 ⟨rfl,rfl⟩;go_wp2_with fail;go_ret2;exact ⟨by rw [<- HE.out];rfl,HKE.out,HU.out⟩
  ·obtain ⟨p,v,hp,hpt,hv,hvl,h3,h4,h5,h6,h7⟩:=HK.out.ok.place (r:=r') (by omega) ht
   have hd2:decide (r'<2)=false:=by simpa using h2
   have HCC:=Lib.hid (cconst_spec r' wr);rw [hd2] at HCC;have hrl:=HK.out.ok.ref_lt ht;have HN:=Lib.hid (cnode_spec b r' K T q p wr (HK.out.upd (HU1.out.trans hU) (by simp)).mem (by omega) hp hpt);rw [hv] at HN
   have HE:Hid (K.den f (fun v=>nb x v)=if nb x v then K.den p.hi (fun v=>nb x v) else K.den p.lo (fun v=>nb x v)):=by
    show _=_
    rw [<- he,h7]
   have HP:=Lib.hid (And.intro h3 (And.intro h4 (And.intro (show i+1<=K.dep p.lo by omega) (show i+1<=K.dep p.hi by omega))));have HU:=Lib.hid hU
   have hv65:(v:Int)<64:=by omega
   clear hU he hd ht hdl hp hpt hv h3 h4 h5 h6 h7 hd2 h2;generalize p.lo=lo at *;generalize p.hi=hi at *;go_wp2_with fail;refine HCC.out.mono ?_;rintro e w3 ⟨rfl,rfl⟩;go_wp2_with fail;refine HN.out.mono ?_;rintro e w3 ⟨rfl,hu⟩;have HU3:=Lib.hid (HU.out.trans hu);clear hu HN;have HBT:=Lib.hid (bitT_nb HX.out v);unfold bitT at HBT
   cases hbt:(bits BinOp.and IntKind.u64 (x/2 ^ v) 1 == 1) with
   | true =>
    have HG:Hid (K.den hi (fun v=>nb x v)=K.den f (fun v=>nb x v)):=by
     show _=_
     rw [HE.out,<- HBT.out,hbt,if_pos rfl]
    go_wp2_with fail
    go_roundg (66-(i+1))
    case measure=>omega
    case rel=>exact ⟨i+1,hi,rfl,by omega,rfl,HP.out.2.1,HP.out.2.2.2,HG.out,HU3.out.alloc _⟩
   | false =>
    have HG:Hid (K.den lo (fun v=>nb x v)=K.den f (fun v=>nb x v)):=by
     show _=_
     rw [HE.out,<- HBT.out,hbt,if_neg (by simp)]
    go_wp2_with fail
    go_roundg (66-(i+1))
    case measure=>omega
    case rel=>exact ⟨i+1,lo,rfl,by omega,rfl,HP.out.1,HP.out.2.2.1,HG.out,HU3.out.alloc _⟩
end Go.Proofs.YtfkopmhpppeheaaGreat
namespace Go.Proofs.YtfkopmhpppeheaaGreat
open Go.RowKit
theorem KV.Under.two {K:KV} {r x:Nat} (h:K.Under r x):2<=r:=by
 induction h with
 | refl h=>exact h
 | lo _ _ _ ih=>exact ih
 | hi _ _ _ ih=>exact ih
theorem KV.sub_under {K:KV} (hk:K.Ok) (l:Nat) (a:Nat->Bool):∀ (n r:Nat),K.vars-K.dep r<=n->K.A.tk r=true->∃ x,K.A.tk x=true/\(x<2\/K.Under r x)/\∀ y,K.den x y=K.den r (K.mix l a y)
 | n,r,hn,ht=>by
  by_cases h2:2<=r
  ·by_cases hl:l<=K.dep r
   ·refine ⟨r,ht,.inr (.refl h2),fun y=>KV.den_same hk.wf hk.ord _ r _ _ ht (Nat.le_refl _) fun v hv hd=>?_⟩
    simp only [KV.mix]
    rw [if_neg (by omega)]
   ·obtain ⟨p,v,hp,hpt,hv,hvl,h3,h4,hd⟩:=hk.wf.node_at h2 ht
    have hb:=hk.ord.below hk.wf h2 hp hpt;have hdl:=hk.wf.dep_lt hk.ord h2 ht;have hlo:=hk.wf.dep_le hk.ord h3;have hhi:=hk.wf.dep_le hk.ord h4
    match n,hn with
    | 0,hn=>omega
    | n+1,hn =>
     have em:∀ y,K.mix l a y v=a v:=fun y=>by simp only [KV.mix];rw [if_pos ⟨hvl,by omega⟩]
     have e:∀ y,K.den r (K.mix l a y)=if a v then K.den p.hi (K.mix l a y) else K.den p.lo (K.mix l a y):=fun y=>by
      rw [KV.den_node hk.wf hk.ord h2 hp hpt,show p.var.toNat=v by omega,em]
     cases ha:a v with
     | true =>
      obtain ⟨x,tx,hux,hx⟩:=KV.sub_under hk l a n p.hi (by omega) h4;exact ⟨x,tx,hux.imp_right fun h=>(KV.Under.hi (.refl h2) hp h.two).trans h,fun y=>by rw [hx,e,ha];simp⟩
     | false =>
      obtain ⟨x,tx,hux,hx⟩:=KV.sub_under hk l a n p.lo (by omega) h3;exact ⟨x,tx,hux.imp_right fun h=>(KV.Under.lo (.refl h2) hp h.two).trans h,fun y=>by rw [hx,e,ha];simp⟩
  ·exact ⟨r,ht,.inl (by omega),fun y=>by rw [K.den_const (by omega),K.den_const (by omega)]⟩
theorem WalkA.below {K:KV} {rs N:List Nat} {s x:Nat} (a:WalkA K [] rs N) (hs:s∈rs) (hu:K.Under s x):x∈N:=by
 induction hu with
 | refl h2=>simpa using a.has s hs h2
 | lo _ hp h2 ih =>
  rcases (a.kids _ _ ih hp).1 with h3 | h3
  ·omega
  ·simpa using h3
 | hi _ hp h2 ih =>
  rcases (a.kids _ _ ih hp).2 with h3 | h3
  ·omega
  ·simpa using h3
end Go.Proofs.YtfkopmhpppeheaaGreat
namespace Go.Proofs.YtfkopmhpppeheaaGreat
open Go.RowKit Go.Maps Go.ChangeMaps Go.WideShapes
def worldV (b m:Nat) (rv tv:Value):Value:=.agg #[.pointer (some ⟨b,0,none⟩),.pointer (some ⟨m,0,none⟩),rv,tv]
theorem boxW (w:World) (x0 x1 x2 x3:Value):(w.alloc (.cells #[x0,x1,x2,x3] 97 (0,0))).cell? ⟨w.heap.size,0,none⟩=some x0/\(w.alloc (.cells #[x0,x1,x2,x3] 97 (0,0))).cell? ⟨w.heap.size,1,none⟩=some x1/\(w.alloc (.cells #[x0,x1,x2,x3] 97 (0,0))).cell? ⟨w.heap.size,2,none⟩=some x2/\(w.alloc (.cells #[x0,x1,x2,x3] 97 (0,0))).cell? ⟨w.heap.size,3,none⟩=some x3:=by
 have h:=heap_alloc_new w (.cells #[x0,x1,x2,x3] 97 (0,0));exact ⟨cell_at h rfl,cell_at h rfl,cell_at h rfl,cell_at h rfl⟩
theorem TLs.two {W:World} {n0 g:Nat} {Z:List Nat} {d0 d1:Value} {t0 t1:TV} (h:W.heap[g]?=some (.cells #[.int .i64 t0.n,d0,.int .i64 t1.n,d1] 122 (0,0))) (h0:TIn W Z d0 t0) (h1:TIn W Z d1 t1) (hg:n0<=g) (hZ:g∉Z) :
  TLs W n0 Z (.slice (some ⟨g,0,none⟩) 2 2) [t0,t1]:=by
 refine ⟨⟨[d0,d1],rfl,⟨rfl,.inr ⟨g,2,_,rfl,hg,h,Nat.le_refl _,by unfold maxLen;omega,rfl,rfl⟩⟩,fun i t c ht hc=>?_⟩,fun k hk=>?_⟩
 ·match i,ht,hc with
  | 0,ht,hc=>simp at ht hc;subst ht hc;exact h0
  | 1,ht,hc=>simp at ht hc;subst ht hc;exact h1
  | i+2,ht,_=>simp at ht
 ·simp [Value.ownBlock] at hk;subst hk;exact hZ
theorem lawnodes_spec (b m n0:Nat) (rv tv:Value) (M:MV) (p:MPtr) (Z:List Nat) (t0 t1:TV) (rest:List TV) (w:World) (h:ModIn w m M p Z) (hZ:∀ k,k∈Z->k<w.heap.size) (hf:M.Fit) (ht:TLs w n0 Z tv (t0::t1::rest)) (hrv:∃ a n c,rv=.slice a n c) :
  Calls Tryz.prog 105 #[worldV b m rv tv] w fun e w'=>TLQ Z (t0::t1::M.lev.flatten) w e w':=by
 obtain ⟨ti,hi2,hz2,hs2,hb2⟩:=info_parts Tryz.infoTable;have HI:=Lib.hid (And.intro hi2 (And.intro hz2 (And.intro hs2 hb2)));obtain ⟨ra,rn,rc,rfl⟩:=hrv;obtain ⟨va,vc,rfl,hva⟩:=ht.form;obtain ⟨g,rfl⟩:=hva (by simp);obtain ⟨d0,x0,x1,hd0⟩:=ht.at_ (i:=0) (t:=t0) rfl;obtain ⟨d1,x2,x3,hd1⟩:=ht.at_ (i:=1) (t:=t1) rfl;obtain ⟨a0,e0,hc0,_⟩:=row_nil_len hd0.row;obtain ⟨a1,e1,hc1,_⟩:=row_nil_len hd1.row;subst hc0 hc1;have HD:=Lib.hid (And.intro hd0 hd1);have HM:=Lib.hid h;have HF:=Lib.hid hf
 have HZ:Hid (∀ x:World,Upd [] w x->∀ k,k∈Z->k<x.heap.size):=fun x u k hk=>Nat.lt_of_lt_of_le (hZ k hk) u.size
 obtain ⟨TL,hTL⟩ : ∃ TL,(t0::t1::rest).length=TL:=⟨_,rfl⟩
 have hTL2:2<=TL:=by rw [<- hTL];simp
 have HBX:=Lib.hid (boxW w (.pointer (some ⟨b,0,none⟩)) (.pointer (some ⟨m,0,none⟩)) (.slice ra rn rc) (.slice (some ⟨g,0,none⟩) TL vc));have HU0:=Lib.hid ((Upd.refl [] w).alloc (.cells #[.pointer (some ⟨b,0,none⟩),.pointer (some ⟨m,0,none⟩),.slice ra rn rc,.slice (some ⟨g,0,none⟩) TL vc] 97 (0,0)));have hc1b:=hf.lev_leS;have hk1:=hf.lev_len;rw [show 0*2=0 from rfl] at x0;rw [show 0*2+1=1 from rfl] at x1;rw [show 1*2=2 from rfl] at x2;rw [show 1*2+1=3 from rfl] at x3;rw [hTL];generalize t0.ws.length=W0 at *;generalize t1.ws.length=W1 at *;generalize hn0:t0.n=n0' at *;generalize hn1:t1.n=n1' at *;have HNN:=Lib.hid (And.intro hn0 hn1);obtain ⟨b0,b1,b2,b3⟩:=HBX.out;have y0:=HU0.out.cell0 x0;have y1:=HU0.out.cell0 x1;have y2:=HU0.out.cell0 x2;have y3:=HU0.out.cell0 x3
 have hlt0:(0:Int)<(TL:Int):=by omega
 have hlt1:(1:Int)<(TL:Int):=by omega
 have hln:0<TL:=by omega
 have hln1:1<TL:=by omega
 unfold worldV;clear h hZ hf ht hd0 hd1 hn0 hn1 x0 x1 x2 x3 hTL hi2 hz2 hs2 hb2
 go_enter Tryz.func105,Tryz.ntmps105
 go_wp2_with fail
 go_region
 have HU1:Hid (Upd [] w ((w.alloc (.cells #[.pointer (some ⟨b,0,none⟩),.pointer (some ⟨m,0,none⟩),.slice ra rn rc,.slice (some ⟨g,0,none⟩) TL vc] 97 (0,0))).alloc (.cells #[.int .i64 n0',.slice a0 W0 e0,.int .i64 n1',.slice a1 W1 e1] 122 (0,0))).drew):=(HU0.out.alloc _).drew;have z1:=(((Upd.refl [] _).alloc (.cells #[.int .i64 n0',.slice a0 W0 e0,.int .i64 n1',.slice a1 W1 e1] 122 (0,0))).drew).cell0 b1
 have HT2:Hid (TLs ((w.alloc (.cells #[.pointer (some ⟨b,0,none⟩),.pointer (some ⟨m,0,none⟩),.slice ra rn rc,.slice (some ⟨g,0,none⟩) TL vc] 97 (0,0))).alloc (.cells #[.int .i64 n0',.slice a0 W0 e0,.int .i64 n1',.slice a1 W1 e1] 122 (0,0))).drew w.heap.size Z (.slice (some ⟨w.heap.size+1,0,none⟩) 2 2) [t0,t1]):=by
  have hn:=heap_alloc_new (w.alloc (.cells #[.pointer (some ⟨b,0,none⟩),.pointer (some ⟨m,0,none⟩),.slice ra rn rc,.slice (some ⟨g,0,none⟩) TL vc] 97 (0,0))) (.cells #[.int .i64 n0',.slice a0 W0 e0,.int .i64 n1',.slice a1 W1 e1] 122 (0,0));rw [World.size_alloc] at hn
  refine TLs.two (by rw [HNN.out.1,HNN.out.2];exact hn) (HD.out.1.keep0 HU1.out) (HD.out.2.keep0 HU1.out) (by omega) fun hm=>?_
  have:=HZ.out w (Upd.refl _ _) _ hm;omega
 clear y0 y1 y2 y3 b0 b1 b2 b3;have HLV:=Lib.hid (mlevels_spec m M p Z _ (HM.out.keep0 HU1.out) (HZ.out _ HU1.out) HF.out);generalize ((w.alloc (.cells #[.pointer (some ⟨b,0,none⟩),.pointer (some ⟨m,0,none⟩),.slice ra rn rc,.slice (some ⟨g,0,none⟩) TL vc] 97 (0,0))).alloc (.cells #[.int .i64 n0',.slice a0 W0 e0,.int .i64 n1',.slice a1 W1 e1] 122 (0,0))).drew=w1 at *;go_wp2_with fail;refine HLV.out.mono ?_;rintro e w2 hE;obtain ⟨lv,rfl,hL,hu2⟩:=hE.ex;obtain ⟨aa,ac,hav,hag⟩:=hL.form;subst hav;have HL:=Lib.hid (And.intro hL (HU1.out.trans hu2));have HT3:=Lib.hid (HT2.out.keep0 hu2);have hsb:=(HU1.out.trans hu2).size;have hs1:=HU1.out.size
 have HK0:Hid (w.heap.size+1<w1.heap.size/\∃ cs fr,w2.heap[w.heap.size+1]?=some (.cells cs 122 fr)):=by
  obtain ⟨xs0,hr0⟩:=HT2.out.row;obtain ⟨xs1,hr1⟩:=HT3.out.row;exact ⟨(hr0.lt _ rfl).2,row_type hr1 rfl⟩
 clear hL hu2 hE HLV HT2 z1;obtain ⟨fl,hfl⟩ : ∃ fl,M.lev.flatten=fl:=⟨_,rfl⟩;have HFL:=Lib.hid hfl;rw [hfl] at hc1b;clear hfl;generalize hLVe:M.lev=LV at HL hag hk1 HFL ⊢;have HLVE:=Lib.hid hLVe;clear hLVe;go_wp2_with fail
 go_loopg [3,19] LV.length (fun g s3 s19 wr=>∃ i:Nat,LV.length-i=g/\i<=LV.length/\s19=.int .i64 i/\TLs wr w.heap.size Z s3 (t0::t1::(LV.take i).flatten)/\Upd [w.heap.size+1] w2 wr/\(∀ k,s3.ownBlock=some k->k=w.heap.size+1\/w2.heap.size<=k))
 case atStart=>exact ⟨0,by omega,by omega,rfl,by simpa using HT3.out,Upd.refl _ _,fun k hk=>.inl (by simpa [Value.ownBlock] using hk.symm)⟩
 case round =>
  obtain ⟨i,rfl,hi,rfl,hT,hU,hB⟩:=hrel
  by_cases hlt:i<LV.length
  ·obtain ⟨c,hc⟩ : ∃ c,LV[i]?=some c:=⟨_,List.getElem?_eq_getElem hlt⟩
   obtain ⟨ga,rfl⟩:=hag (by omega);obtain ⟨cl,x0,htl⟩:=(HL.out.1.far (k0:=some (w.heap.size+1)) hU (fun k hk=>by cases hk;exact HK0.out.1) (fun k hk=>by cases hk;exact HK0.out.2)).at_ hc;obtain ⟨A,cc,ys,hcf,hA,hrow,hyl,hyc,hy1⟩:=htl.src;subst hcf;obtain ⟨xs,hrx⟩:=hT.row;have hb3:=flat_take_le LV (i+1);have HS:=Lib.hid (flat_take_snoc hc);rw [HS.out,List.length_append,HFL.out] at hb3;have HP:=Lib.hid (And.intro hT (And.intro htl (And.intro hU (And.intro hrx hB))));have HY:=Lib.hid (And.intro hA (And.intro hrow (And.intro hyl (And.intro hyc hy1))));have hsz:=hU.size
   have hil:(i:Int)<(LV.length:Int):=by omega
   have hb4:(t0::t1::(LV.take i).flatten).length+c.length<=135168010:=by simp only [List.length_cons];omega
   have HAS:Hid (t0::t1::(LV.take (i+1)).flatten=(t0::t1::(LV.take i).flatten)++c):=by
    show _=_
    rw [HS.out];rfl
   generalize t0::t1::(LV.take i).flatten=CU at *;generalize hcn:c.length=cn at *;have HCN:=Lib.hid hcn;clear hT hU hc htl hrx hA hrow hyl hyc hy1 hcn hB hb3
   go_wp2_with (at_builtin;go_must (refine wpList_append_src rfl (.tmp 23) (.tmp 24) 22 rfl w.heap.size 122 ti _ 2 32 Tryz.underlying22 HI.out.1 HI.out.2.1 HI.out.2.2.1 HI.out.2.2.2 (by rfl) (by decide) _ CU.length xs rfl HP.out.2.2.2.1 A cn cc ys rfl HY.out.1 HY.out.2.2.1 HY.out.2.2.2.1 HY.out.2.2.2.2 (by unfold maxLen;omega) (by omega) (by omega) ?_))
   intro v6 w6 hown hgr hat
   have HE:Hid (TLs w6 w.heap.size Z v6 (CU++c)/\Upd [w.heap.size+1] w2 w6/\(∀ k,v6.ownBlock=some k->k=w.heap.size+1\/w2.heap.size<=k)):=by
    have hp:=HP.out.1.cat HP.out.2.1 (HZ.out w (Upd.refl _ _)) hgr HP.out.2.2.2.1 (by rw [HCN.out];exact HY.out.2.1) (by rw [HCN.out];exact hown);refine ⟨hp.1,HP.out.2.2.1.then hp.2 fun k hk=>?_,fun k hk=>?_⟩
    ·rcases HP.out.2.2.2.2 k (Option.mem_toList.1 hk) with h | h
     ·exact .inl (by simp [h])
     ·exact .inr h
    ·rcases hat with e | e
     ·exact HP.out.2.2.2.2 k (by rw [<- e];exact hk)
     ·rw [hk] at e
      injection e with e
      right;omega
   clear hown hgr hat;go_wp2_with fail
   go_roundg (LV.length-(i+1))
   case measure=>omega
   case rel=>exact ⟨i+1,rfl,by omega,by simp,by rw [HAS.out];exact HE.out.1,HE.out.2⟩
  ·obtain rfl:i=LV.length:=by omega
   have hil:¬ ((LV.length:Int)<(LV.length:Int)):=by omega
   rw [List.take_length,HFL.out] at hT;have HT1:=Lib.hid (And.intro hT (HL.out.2.then hU fun k hk=>.inr (by simp at hk;omega)));clear hT hU hB;go_wp2_with fail;go_ret;exact ⟨_,rfl,by rw [HLVE.out,HFL.out];exact HT1.out.1,HT1.out.2⟩
structure WIn (w:World) (b m:Nat) (rv tv:Value) (K:KV) (F:List Nat) (M:MV) (p:MPtr) (refs:List Nat) (tabs:List TV):Prop where
 ker:KerAt w b K F
 mod:ModIn w m M p (F++p.all m)
 dj:∀ k,k∈F->k∉p.all m
 rr:w.ownsRow 0 77 1 rv refs.length (flatRefs refs)
 rf:∀ k,rv.ownBlock=some k->k∉F/\k∉p.all m
 tt:TLs w 0 (F++p.all m) tv tabs
 agr:Agr K M
 fit:M.Fit
 lr:refs.length=tabs.length
 rb:refs.length<=1000
 t2:∃ rest,tabs=constT K.vars false::constT K.vars true::rest
 ok:∀ t,t∈tabs->t.Ok/\t.n=K.vars
 nm:∀ (i r:Nat) (t:TV),refs[i]?=some r->tabs[i]?=some t->M.isLive t=true->Names K r t
 r32:∀ r,r∈refs->r<=4294967295
theorem WIn.z {w:World} {b m:Nat} {rv tv:Value} {K:KV} {F:List Nat} {M:MV} {p:MPtr} {refs:List Nat} {tabs:List TV} (h:WIn w b m rv tv K F M p refs tabs):∀ k,k∈F++p.all m->k<w.heap.size:=fun k hk=>by
 rcases List.mem_append.1 hk with hk | hk
 ·exact h.ker.lt k hk
 ·rcases MPtr.mem.1 hk with rfl | h1 | h1 | h1
  ·exact heap_lt h.mod.blk
  ·exact (h.mod.os.lt k h1).2
  ·obtain ⟨xs,hr⟩:=h.mod.hs.row;exact (hr.lt k h1).2
  ·exact (h.mod.ts.lt k h1).2
theorem WIn.keep0 {w w':World} {b m:Nat} {rv tv:Value} {K:KV} {F:List Nat} {M:MV} {p:MPtr} {refs:List Nat} {tabs:List TV} (h:WIn w b m rv tv K F M p refs tabs) (u:Upd [] w w'):WIn w' b m rv tv K F M p refs tabs :=
 ⟨h.ker.upd u (by simp),h.mod.keep0 u,h.dj,row_keep h.rr fun k hk=>u.block k (h.rr.lt k hk).2 (by simp),h.rf,h.tt.keep0 u,h.agr,h.fit,h.lr,h.rb,h.t2,h.ok,h.nm,h.r32⟩
theorem WIn.n6 {w:World} {b m:Nat} {rv tv:Value} {K:KV} {F:List Nat} {M:MV} {p:MPtr} {refs:List Nat} {tabs:List TV} (h:WIn w b m rv tv K F M p refs tabs):K.vars<=8:=by rw [<- h.agr.same.n];exact h.fit.n6
theorem WIn.live_nodes {w:World} {b m:Nat} {rv tv:Value} {K:KV} {F:List Nat} {M:MV} {p:MPtr} {refs:List Nat} {tabs:List TV} (_h:WIn w b m rv tv K F M p refs tabs) {t:TV} (ht:t.n=K.vars) :
  t∈constT K.vars false::constT K.vars true::M.lev.flatten↔M.isLive t=true:=by
 unfold MV.isLive;rw [Bool.or_eq_true,TV.isC_iff,ht]
 have hfl:(M.lev.any fun l=>decide (t∈l))=true↔t∈M.lev.flatten:=by
  rw [List.any_eq_true,List.mem_flatten];simp only [decide_eq_true_eq]
 rw [hfl,List.mem_cons,List.mem_cons];constructor
 ·rintro (h | h | h)
  ·exact .inl ⟨false,h⟩
  ·exact .inl ⟨true,h⟩
  ·exact .inr h
 ·rintro (⟨b,h⟩ | h)
  ·cases b
   ·exact .inl h
   ·exact .inr (.inl h)
  ·exact .inr (.inr h)
theorem flatRefs_get {l:List Nat} {i r:Nat} (h:l[i]?=some r):(flatRefs l)[i]?=some (.int .u32 r):=by rw [flatRefs,List.getElem?_map,h];rfl
theorem stands_spec (b m:Nat) (rv tv:Value) (K:KV) (F:List Nat) (M:MV) (p:MPtr) (refs:List Nat) (tabs:List TV) (w:World) (h:WIn w b m rv tv K F M p refs tabs) (htr:K.trail.length=M.trail.length) (_htl:M.trail.length<=1000000) :
  Calls Tryz.prog 53 #[worldV b m rv tv] w fun e w'=>e=.returned (.bool true)/\Upd [] w w':=by
 have hn6:=h.n6;obtain ⟨oa,oc,hov,_⟩:=row_nil_len h.mod.os;obtain ⟨xa,xc,hxv,_⟩:=row_nil_len h.mod.ts;obtain ⟨ya,yc,hyv,_⟩:=h.mod.hs.form;obtain ⟨_,_,c2,c3,c4⟩:=h.mod.cells;rw [hov] at c2;rw [hxv] at c4;rw [hyv] at c3;have hos:=h.mod.os;rw [hov] at hos;obtain ⟨ra,rc,hrv,hra⟩:=row_nil_len h.rr;obtain ⟨ta,tc,htv,hta⟩:=h.tt.form;subst hrv htv;have HW:=Lib.hid h
 have HZ:Hid (∀ x:World,Upd [] w x->∀ k,k∈F++p.all m->k<x.heap.size):=fun x u k hk=>Nat.lt_of_lt_of_le (h.z k hk) u.size
 have hol:=h.fit.ol;have hhl:=h.fit.hl;have HOD:=Lib.hid h.agr.same.od
 have HOR:Hid (∀ x:World,Upd [] w x->Calls Tryz.prog 43 #[.pointer (some ⟨b,0,none⟩)] x fun e w'=>∃ (g cap:Nat),e=.returned (.slice (some ⟨g,0,none⟩) M.order.length cap)/\w'.ownsRow x.heap.size 3 1 (.slice (some ⟨g,0,none⟩) M.order.length cap) M.order.length (flatN M.order)/\Upd [] x w'):=fun x u=>by
  have:=order_at_spec b K F x (h.ker.upd u (by simp))
  rw [<- h.agr.same.od] at this;exact this
 have HOS:Hid (∀ x:World,Upd [] w x->x.ownsRow 0 3 1 (.slice oa M.order.length oc) M.order.length (flatN M.order)):=fun x u=>row_keep hos fun k hk=>u.block k (hos.lt k hk).2 (by simp)
 have HTR:Hid (∀ x:World,Upd [] w x->Calls Tryz.prog 44 #[.pointer (some ⟨b,0,none⟩)] x fun e w'=>e=.returned (.int .i64 (M.trail.length:Nat))/\w'=x):=fun x u=>by
  have:=trail_at b K F x (h.ker.upd u (by simp))
  rw [htr] at this;exact this
 have HRT:Hid (∀ x:World,Upd [] w x->Calls Tryz.prog 35 #[.pointer (some ⟨b,0,none⟩)] x fun e w'=>∃ (a:Option Addr) (c:Nat),e=.returned (.slice a M.held.length c)/\Upd [] x w'):=fun x u=>by
  refine (roots_at b K F x (h.ker.upd u (by simp))).mono ?_;rintro e w' ⟨v,rfl,hr,hu⟩;obtain ⟨a,c,rfl,_⟩:=row_nil_len hr;rw [h.agr.roots_len h.ker.ok h.ker.uni (by omega)];exact ⟨a,c,rfl,hu⟩
 have hfl:=h.fit.lev_leS;have hus:=h.agr.used h.ker.ok h.ker.uni (by omega)
 have HLI:Hid (∀ x:World,Upd [] w x->Calls Tryz.prog 33 #[.pointer (some ⟨b,0,none⟩)] x fun e w'=>e=.returned (.int .i64 (M.lev.flatten.length:Nat))/\w'=x):=fun x u=>by
  have:=live_at b K F x (h.ker.upd u (by simp));rw [hus] at this;rw [show ((M.lev.flatten.length:Nat):Int)=(((M.lev.flatten.length+2:Nat):Int)-2) by omega];exact this
 obtain ⟨rest,hrest⟩:=h.t2
 have HND:Hid (∀ x:World,Upd [] w x->Calls Tryz.prog 105 #[worldV b m (.slice ra refs.length rc) (.slice ta tabs.length tc)] x fun e w'=>TLQ (F++p.all m) (constT K.vars false::constT K.vars true::M.lev.flatten) x e w'):=fun x u =>
  lawnodes_spec b m 0 _ _ M p _ _ _ rest x (h.mod.keep0 u) (HZ.out x u) h.fit (by rw [<- hrest];exact h.tt.keep0 u) ⟨_,_,_,rfl⟩
 have HBX:=Lib.hid (boxW w (.pointer (some ⟨b,0,none⟩)) (.pointer (some ⟨m,0,none⟩)) (.slice ra refs.length rc) (.slice ta tabs.length tc));have HU0:=Lib.hid ((Upd.refl [] w).alloc (.cells #[.pointer (some ⟨b,0,none⟩),.pointer (some ⟨m,0,none⟩),.slice ra refs.length rc,.slice ta tabs.length tc] 97 (0,0)));unfold worldV at HND ⊢;have HLR:=Lib.hid h.lr;have hrb:=h.rb
 have HK:Hid (∀ x:World,Upd [] (w.alloc (.cells #[.pointer (some ⟨b,0,none⟩),.pointer (some ⟨m,0,none⟩),.slice ra refs.length rc,.slice ta tabs.length tc] 97 (0,0))) x->(x.cell? ⟨w.heap.size,0,none⟩=some (.pointer (some ⟨b,0,none⟩))/\x.cell? ⟨w.heap.size,1,none⟩=some (.pointer (some ⟨m,0,none⟩))/\x.cell? ⟨w.heap.size,2,none⟩=some (.slice ra refs.length rc)/\x.cell? ⟨w.heap.size,3,none⟩=some (.slice ta tabs.length tc)) /\
   x.cell? ⟨m,2,none⟩=some (.slice oa M.order.length oc)/\x.cell? ⟨m,3,none⟩=some (.slice ya M.held.length yc)/\x.cell? ⟨m,4,none⟩=some (.slice xa M.trail.length xc)):=fun x u =>
  ⟨⟨u.cell0 HBX.out.1,u.cell0 HBX.out.2.1,u.cell0 HBX.out.2.2.1,u.cell0 HBX.out.2.2.2⟩,(HU0.out.trans u).cell0 c2,(HU0.out.trans u).cell0 c3,(HU0.out.trans u).cell0 c4⟩
 clear h hov hxv hyv hos htr c2 c3 c4 hus hrest;obtain ⟨⟨b0,b1,b2,b3⟩,k2,k3,k4⟩:=HK.out _ (Upd.refl _ _)
 go_enter Tryz.func53,Tryz.ntmps53
 go_wp2_with fail
 first | (go_region_held3  (fun x=>(x.cell? ⟨w.heap.size,0,none⟩=some (.pointer (some ⟨b,0,none⟩))/\x.cell? ⟨w.heap.size,1,none⟩=some (.pointer (some ⟨m,0,none⟩))/\x.cell? ⟨w.heap.size,2,none⟩=some (.slice ra refs.length rc)/\x.cell? ⟨w.heap.size,3,none⟩=some (.slice ta tabs.length tc)) /\
   x.cell? ⟨m,2,none⟩=some (.slice oa M.order.length oc)/\x.cell? ⟨m,3,none⟩=some (.slice ya M.held.length yc)/\x.cell? ⟨m,4,none⟩=some (.slice xa M.trail.length xc)) (first | exact HK.out _ (Upd.refl _ _).drew | exact HK.out _ HO1.out.2 | exact HK.out _ HO2.out | exact HK.out _ HO3.out) (first
   | (go_at_call 43;refine (HOR.out _ HU0.out.drew).mono ?_;rintro e w1 ⟨g,cap,rfl,ho,hu⟩;have HO1:=Lib.hid (And.intro ho hu.of_drew);clear ho hu)
   | (go_at_call 121;refine (orders_spec _ 0 _ _ M.order _ HO1.out.1 (HOS.out _ (HU0.out.trans HO1.out.2)) (by omega)).mono ?_;rintro e w2 ⟨rfl,hu⟩;have HO2:=Lib.hid (HO1.out.2.trans hu);clear hu)
   | (go_at_call 44;refine (HTR.out _ (HU0.out.trans HO2.out)).mono ?_;rintro e w3 ⟨rfl,rfl⟩)
   | (go_at_call 35;refine (HRT.out _ (HU0.out.trans HO2.out)).mono ?_;rintro e w4 ⟨ga,gc,rfl,hu⟩;have HO3:=Lib.hid (HO2.out.trans hu);clear hu)))
 have HU4:=Lib.hid (HU0.out.trans HO3.out);obtain ⟨⟨b0,b1,b2,b3⟩,k2,k3,k4⟩:=HK.out _ HO3.out;have HO4:=Lib.hid HO3.out;clear HO1 HO2 HO3 HOR HOS HTR HRT;go_wp2_with fail;refine (HND.out _ HU4.out).mono ?_;rintro e w5 hE;obtain ⟨nv,rfl,hN,hu⟩:=hE.ex;obtain ⟨na,nc,hnv,_⟩:=hN.form;obtain ⟨NL,hNL⟩ : ∃ NL,constT K.vars false::constT K.vars true::M.lev.flatten=NL:=⟨_,rfl⟩;have HNL:=Lib.hid hNL
 have hnl:NL.length=M.lev.flatten.length+2:=by rw [<- hNL];simp
 rw [hNL] at hN hnv;subst hnv;have HN5:=Lib.hid (And.intro hN (And.intro (HU4.out.trans hu) (HO4.out.trans hu)));obtain ⟨⟨b0,b1,b2,b3⟩,k2,k3,k4⟩:=HK.out _ (HO4.out.trans hu);have HLI5:=Lib.hid (HLI.out w5 (HU4.out.trans hu));generalize M.lev.flatten.length=FL at *
 have hsub:IntKind.i64.wrap ((NL.length:Int)-2)=(FL:Int):=by rw [IntWalk.i64_in _ (by omega)];omega
 have hnl2:NL.length<=135168002:=by omega
 clear hE hN hu hNL hnl HND HLI;go_wp2_with fail;refine HLI5.out.mono ?_;rintro e w6 ⟨rfl,rfl⟩;clear HLI5;go_wp2_with fail
 go_loopg [53] refs.length (fun g s53 wr=>∃ i:Nat,refs.length-i=g/\i<=refs.length/\s53=.int .i64 i/\Upd [] w6 wr)
 case atStart=>exact ⟨0,by omega,by omega,rfl,Upd.refl _ _⟩
 case round =>
  obtain ⟨i,rfl,hi,rfl,hU⟩:=hrel
  by_cases hlt:i<refs.length
  ·obtain ⟨r,hr⟩ : ∃ r,refs[i]?=some r:=⟨_,List.getElem?_eq_getElem hlt⟩
   obtain ⟨t,ht⟩ : ∃ t,tabs[i]?=some t:=⟨_,List.getElem?_eq_getElem (by rw [<- HLR.out];exact hlt)⟩;have hUw:=HN5.out.2.1.trans hU;obtain ⟨rg,rfl⟩:=row_some HW.out.rr (by omega);obtain ⟨tg,rfl⟩:=hta (by rw [<- HLR.out];omega)
   have hil:(i:Int)<(refs.length:Int):=by omega
   have hil2:(i:Int)<(tabs.length:Int):=by rw [<- HLR.out];omega
   have HWr:=Lib.hid (HW.out.keep0 hUw);have x0:wr.cell? ⟨rg,i,none⟩=some (.int .u32 r):=row_cell HWr.out.rr (flatRefs_get hr);obtain ⟨ct,x1,x2,hti⟩:=HWr.out.tt.at_ ht;obtain ⟨ca,cc,hct,_⟩:=row_nil_len hti.row;subst hct;obtain ⟨⟨b0,b1,b2,b3⟩,k2,k3,k4⟩:=HK.out _ (HN5.out.2.2.trans hU);have hok:=HW.out.ok t (List.mem_of_getElem? ht);have hnlv:=HW.out.live_nodes hok.2;rw [HNL.out] at hnlv
   have HNM:Hid (t∈NL->Names K r t):=fun hm=>HW.out.nm i r t hr ht (hnlv.1 hm)
   have HIN:=Lib.hid (in_spec _ (F++p.all m) _ NL _ t wr (HN5.out.1.keep0 hU) hti (by omega));have HT:=Lib.hid (And.intro hti (And.intro hok hUw));have HU6:=Lib.hid hU;unfold tabV at HIN;generalize hTW:t.ws.length=TW at *;generalize hTN:t.n=tn at *;have HTN:=Lib.hid (And.intro hTW hTN);clear hr ht hU hUw hti hok hnlv hTW hTN;go_wp2_with fail;refine HIN.out.mono ?_;rintro e w7 ⟨rfl,hu⟩;have HU7:=Lib.hid (HU6.out.trans hu);have HUr7:=Lib.hid hu;have HU7w:=Lib.hid (HT.out.2.2.trans hu);have y1:=hu.cell0 x1;have y2:=hu.cell0 x2;obtain ⟨⟨b0,b1,b2,b3⟩,k2,k3,k4⟩:=HK.out _ (HN5.out.2.2.trans HU7.out);clear hu HIN x0 x1 x2
   by_cases e:t∈NL
   ·rw [decide_eq_true e]
    have hnm:=HNM.out e;clear e;have hr32:=HW.out.ker.ok.ref_lt hnm.1
    have HHD:Hid (∀ x:World,Upd [] w x->Calls Tryz.prog 82 #[.pointer (some ⟨b,0,none⟩),.int .u32 r] x fun e w'=>e=.returned (.int .i64 (K.hold r))/\w'=x):=fun x u=>held_at b r K F x (HW.out.ker.upd u (by simp)) (by omega)
    have HHO:Hid (∀ x:World,Upd [] w x->Upd [] wr x->Calls Tryz.prog 122 #[.pointer (some ⟨m,0,none⟩),.agg #[.int .i64 tn,.slice ca TW cc]] x fun e w'=>e=.returned (.int .i64 (K.hold r))/\Upd [] x w'):=fun x u ur=>by
     have:=holds_spec m M p (F++p.all m) (.slice ca TW cc) t x (HW.out.mod.keep0 u) (HT.out.1.keep0 ur) (by omega);rw [HW.out.agr.holds HW.out.ker.ok HW.out.ker.uni (by have:=HT.out.2.1.1;exact this) (by rw [HTN.out.2];exact HT.out.2.1.2) hnm] at this;unfold tabV at this;rw [HTN.out.2] at this;exact this
    have HUL:Hid (∀ x:World,Upd [] w x->Upd [] wr x->Calls Tryz.prog 123 #[.pointer (some ⟨b,0,none⟩),.int .u32 r,.agg #[.int .i64 tn,.slice ca TW cc]] x fun e w'=>e=.returned (.int .i64 0)/\Upd [] x w'):=fun x u ur=>by
     have:=unlike_zero b r (F++p.all m) (.slice ca TW cc) t K F x (HW.out.ker.upd u (by simp)) hnm (HT.out.1.keep0 ur) (by rw [HTN.out.2];exact HT.out.2.1.2) (by rw [HTN.out.2,HT.out.2.1.2];exact hn6);unfold tabV at this;rw [HTN.out.2] at this;exact this
    have HKK:Hid (∀ x:World,Upd [] w7 x->(x.cell? ⟨w.heap.size,0,none⟩=some (.pointer (some ⟨b,0,none⟩))/\x.cell? ⟨w.heap.size,1,none⟩=some (.pointer (some ⟨m,0,none⟩))/\x.cell? ⟨w.heap.size,3,none⟩=some (.slice (some ⟨tg,0,none⟩) tabs.length tc))/\x.cell? ⟨tg,i*2,none⟩=some (.int .i64 tn)/\x.cell? ⟨tg,i*2+1,none⟩=some (.slice ca TW cc)):=fun x u=>⟨⟨u.cell0 b0,u.cell0 b1,u.cell0 b3⟩,u.cell0 y1,u.cell0 y2⟩
    have hww:=Lib.hid HUr7.out;generalize K.hold r=kh at *;clear hr32 hnm;go_wp2_with fail
    first | (go_region_held3 (fun x=>(x.cell? ⟨w.heap.size,0,none⟩=some (.pointer (some ⟨b,0,none⟩))/\x.cell? ⟨w.heap.size,1,none⟩=some (.pointer (some ⟨m,0,none⟩))/\x.cell? ⟨w.heap.size,3,none⟩=some (.slice (some ⟨tg,0,none⟩) tabs.length tc))/\x.cell? ⟨tg,i*2,none⟩=some (.int .i64 tn)/\x.cell? ⟨tg,i*2+1,none⟩=some (.slice ca TW cc)) (first | exact HKK.out _ (Upd.refl _ _).drew | exact HKK.out _ HO1.out | exact HKK.out _ HO2.out) (first
     | (go_at_call 82;refine (HHD.out _ HU7w.out.drew).mono ?_;rintro e w8 ⟨rfl,rfl⟩)
     | (go_at_call 122;refine (HHO.out _ HU7w.out.drew hww.out.drew).mono ?_;rintro e w9 ⟨rfl,hu⟩;have HO1:=Lib.hid hu.of_drew;clear hu)
     | (go_at_call 123;refine (HUL.out _ (HU7w.out.trans HO1.out) (hww.out.trans HO1.out)).mono ?_;rintro e w10 ⟨rfl,hu⟩;have HO2:=Lib.hid (HO1.out.trans hu);clear hu)))
    go_wp2_with fail
    go_roundg (refs.length-(i+1))
    case measure=>omega
    case rel=>exact ⟨i+1,rfl,by omega,by simp,HU7.out.trans HO2.out⟩
   ·rw [decide_eq_false e]
    clear e;go_wp2_with fail
    go_roundg (refs.length-(i+1))
    case measure=>omega
    case rel=>exact ⟨i+1,rfl,by omega,by simp,HU7.out⟩
  ·obtain rfl:i=refs.length:=by omega
   have hil:¬ ((refs.length:Int)<(refs.length:Int)):=by omega
   have HU:=Lib.hid (HN5.out.2.1.trans hU);clear hU;go_wp2_with fail;go_ret;exact ⟨rfl,HU.out⟩
theorem Tryz.infoRefS:(Tryz.prog.info? 77).map (fun i=>(i.zero,i.size,i.bytes))=some (some (.int .u32 0),1,4):=by kernel_rfl
structure WMem (w:World) (b m:Nat) (rv tv:Value) (K:KV) (F:List Nat) (M:MV) (p:MPtr) (refs:List Nat) (tabs:List TV):Prop where
 ker:KerAt w b K F
 mod:ModIn w m M p (F++p.all m)
 dj:∀ k,k∈F->k∉p.all m
 rr:w.ownsRow 0 77 1 rv refs.length (flatRefs refs)
 rf:∀ k,rv.ownBlock=some k->k∉F/\k∉p.all m
 tt:TLs w 0 (F++p.all m) tv tabs
structure WLog (K:KV) (M:MV) (refs:List Nat) (tabs:List TV):Prop where
 agr:Agr K M
 fit:M.Fit
 lr:refs.length=tabs.length
 rb:refs.length<=1000
 t2:∃ rest,tabs=constT K.vars false::constT K.vars true::rest
 ok:∀ t,t∈tabs->t.Ok/\t.n=K.vars
 nm:∀ (i r:Nat) (t:TV),refs[i]?=some r->tabs[i]?=some t->M.isLive t=true->Names K r t
 r32:∀ r,r∈refs->r<=4294967295
theorem WIn.of {w:World} {b m:Nat} {rv tv:Value} {K:KV} {F:List Nat} {M:MV} {p:MPtr} {refs:List Nat} {tabs:List TV} (h:WMem w b m rv tv K F M p refs tabs) (l:WLog K M refs tabs):WIn w b m rv tv K F M p refs tabs :=
 ⟨h.ker,h.mod,h.dj,h.rr,h.rf,h.tt,l.agr,l.fit,l.lr,l.rb,l.t2,l.ok,l.nm,l.r32⟩
theorem WMem.z {w:World} {b m:Nat} {rv tv:Value} {K:KV} {F:List Nat} {M:MV} {p:MPtr} {refs:List Nat} {tabs:List TV} (h:WMem w b m rv tv K F M p refs tabs):∀ k,k∈F++p.all m->k<w.heap.size:=fun k hk=>by
 rcases List.mem_append.1 hk with hk | hk
 ·exact h.ker.lt k hk
 ·rcases MPtr.mem.1 hk with rfl | h1 | h1 | h1
  ·exact heap_lt h.mod.blk
  ·exact (h.mod.os.lt k h1).2
  ·obtain ⟨xs,hr⟩:=h.mod.hs.row;exact (hr.lt k h1).2
  ·exact (h.mod.ts.lt k h1).2
theorem WMem.keep0 {w w':World} {b m:Nat} {rv tv:Value} {K:KV} {F:List Nat} {M:MV} {p:MPtr} {refs:List Nat} {tabs:List TV} (h:WMem w b m rv tv K F M p refs tabs) (u:Upd [] w w'):WMem w' b m rv tv K F M p refs tabs :=
 ⟨h.ker.upd u (by simp),h.mod.keep0 u,h.dj,row_keep h.rr fun k hk=>u.block k (h.rr.lt k hk).2 (by simp),h.rf,h.tt.keep0 u⟩
theorem WMem.kernel {w w1:World} {b m:Nat} {rv tv:Value} {K K1:KV} {F F1:List Nat} {M:MV} {p:MPtr} {refs:List Nat} {tabs:List TV} (h:WMem w b m rv tv K F M p refs tabs) (hk:KerAt w1 b K1 F1) (u:Upd F w w1) (s:Sub F w F1):WMem w1 b m rv tv K1 F1 M p refs tabs:=by
 have hz:=h.z
 have hs:Sub (F++p.all m) w (F1++p.all m):=fun k hk=>by
  rcases List.mem_append.1 hk with hk | hk
  ·exact (s k hk).imp (fun h=>List.mem_append.2 (.inl h)) id
  ·exact .inl (List.mem_append.2 (.inr hk))
 have hS:∀ k,k∈F->k∈F1++p.all m\/w.heap.size<=k\/k∈F++p.all m:=fun k hk=>.inr (.inr (List.mem_append.2 (.inl hk)))
 refine ⟨hk,?_,fun k hk hm=>?_,row_keep h.rr fun k hk=>u.block k (h.rr.lt k hk).2 (h.rf k hk).1,fun k hk=>⟨fun hm=>?_,(h.rf k hk).2⟩,?_⟩
 ·have h1:=h.mod.keep u (fun k hk=>.inl (List.mem_append.2 (.inl hk))) (fun k hk hm=>h.dj k hm hk)
  refine ⟨h1.blk,h1.os,?_,h1.ts,h1.ne,fun k hk=>List.mem_append.2 (.inr hk)⟩;have h2:=h.mod.hs.apart hs
  refine (h.mod.hs.apart (Z':=F++(F1++p.all m)) fun k hk=>?_).keep u (fun k hk=>.inl (List.mem_append.2 (.inl hk))) (fun k hk hm=>h.dj k hm (MPtr.mem.2 (.inr (.inr (.inl hk))))) |>.apart fun k hk=>.inl (List.mem_append.2 (.inr hk))
  rcases List.mem_append.1 hk with hk | hk
  ·exact .inl (List.mem_append.2 (.inl hk))
  ·exact hs k hk
 ·rcases s k hk with h1 | h1
  ·exact h.dj k h1 hm
  ·have:=hz k (List.mem_append.2 (.inr hm));omega
 ·rcases s k hm with h1 | h1
  ·exact (h.rf k hk).1 h1
  ·have:=(h.rr.lt k hk).2;omega
 ·refine ((h.tt.apart (Z':=F++(F1++p.all m)) fun k hk=>?_).keep u fun k hk=>.inl (List.mem_append.2 (.inl hk))).apart fun k hk=>.inl (List.mem_append.2 (.inr hk))
  rcases List.mem_append.1 hk with hk | hk
  ·exact .inl (List.mem_append.2 (.inl hk))
  ·exact hs k hk
theorem WMem.model {w w1:World} {b m:Nat} {rv tv:Value} {K:KV} {F:List Nat} {M M':MV} {p:MPtr} {refs:List Nat} {tabs:List TV} (h:WMem w b m rv tv K F M p refs tabs) (e:ModE m p (F++p.all m) M' w w1):∃ p',WMem w1 b m rv tv K F M' p' refs tabs/\Upd (p.all m) w w1/\Sub (p.all m) w (p'.all m):=by
 obtain ⟨p',hm,u,s⟩:=e.ex;have hz:=h.z;refine ⟨p',⟨h.ker.upd u h.dj,⟨hm.blk,hm.os,hm.hs.apart fun k hk=>.inl ?_,hm.ts,hm.ne,fun k hk=>List.mem_append.2 (.inr hk)⟩,fun k hk hm=>?_,row_keep h.rr fun k hk=>u.block k (h.rr.lt k hk).2 (h.rf k hk).2,fun k hk=>⟨(h.rf k hk).1,fun hm=>?_⟩,?_⟩,u,s⟩
 ·rcases List.mem_append.1 hk with hk | hk
  ·exact List.mem_append.2 (.inl (List.mem_append.2 (.inl hk)))
  ·exact List.mem_append.2 (.inr hk)
 ·rcases s k hm with h1 | h1
  ·exact h.dj k hk h1
  ·have:=hz k (List.mem_append.2 (.inl hk));omega
 ·rcases s k hm with h1 | h1
  ·exact (h.rf k hk).2 h1
  ·have:=(h.rr.lt k hk).2;omega
 ·refine ((h.tt.apart (Z':=(F++p.all m)++p'.all m) fun k hk=>?_).keep u fun k hk=>.inl (List.mem_append.2 (.inl (List.mem_append.2 (.inr hk))))).apart fun k hk=>.inl ?_
  ·rcases List.mem_append.1 hk with hk | hk
   ·exact .inl hk
   ·exact (s k hk).imp (fun h=>List.mem_append.2 (.inr h)) id
  ·rcases List.mem_append.1 hk with hk | hk
   ·exact List.mem_append.2 (.inl (List.mem_append.2 (.inl hk)))
   ·exact List.mem_append.2 (.inr hk)
structure Fro (n0:Nat) (w w':World):Prop where
 os:w'.os=w.os
 tape:w'.tape=w.tape
 output:w'.output=w.output
 size:w.heap.size<=w'.heap.size
 block:∀ k,k<n0->k<w.heap.size->w'.heap[k]?=w.heap[k]?
theorem Fro.refl (n0:Nat) (w:World):Fro n0 w w:=⟨rfl,rfl,rfl,Nat.le_refl _,fun _ _ _=>rfl⟩
theorem Fro.trans {n0:Nat} {w w1 w2:World} (h:Fro n0 w w1) (k:Fro n0 w1 w2):Fro n0 w w2 :=
 ⟨k.os.trans h.os,k.tape.trans h.tape,k.output.trans h.output,Nat.le_trans h.size k.size,fun x hx hl=>(k.block x hx (Nat.lt_of_lt_of_le hl h.size)).trans (h.block x hx hl)⟩
theorem Fro.of {n0:Nat} {S:List Nat} {w w1:World} (u:Upd S w w1) (h:∀ k,k∈S->n0<=k):Fro n0 w w1 :=
 ⟨u.os,u.tape,u.output,u.size,fun x hx hl=>u.block x hl fun hm=>by have:=h x hm;omega⟩
theorem Fro.of0 {n0:Nat} {w w1:World} (u:Upd [] w w1):Fro n0 w w1:=Fro.of u (by simp)
theorem Fro.upd {n0:Nat} {w0 w w1:World} (u:Upd [] w0 w) (h:w0.heap.size<=n0) (f:Fro n0 w w1):Upd [] w0 w1 :=
 ⟨f.os.trans u.os,f.tape.trans u.tape,f.output.trans u.output,Nat.le_trans u.size f.size,fun x hx _=>(f.block x (by omega) (Nat.lt_of_lt_of_le hx u.size)).trans (u.block x hx (by simp))⟩
structure LIn (w:World) (n0 a b m:Nat) (rv tv:Value) (K:KV) (F:List Nat) (M:MV) (p:MPtr) (refs:List Nat) (tabs:List TV):Prop where
 blk:w.heap[a]?=some (.cells #[.pointer (some ⟨b,0,none⟩),.pointer (some ⟨m,0,none⟩),rv,tv] 97 (0,0))
 mem:WMem w b m rv tv K F M p refs tabs
 na:a∉F/\a∉p.all m
 lo:∀ k,(k∈F\/k∈p.all m\/k=a\/rv.ownBlock=some k\/tv.ownBlock=some k)->n0<=k
 bl:n0<=w.heap.size
theorem LIn.keep0 {w w':World} {n0 a b m:Nat} {rv tv:Value} {K:KV} {F:List Nat} {M:MV} {p:MPtr} {refs:List Nat} {tabs:List TV} (h:LIn w n0 a b m rv tv K F M p refs tabs) (u:Upd [] w w'):LIn w' n0 a b m rv tv K F M p refs tabs :=
 ⟨by rw [u.block a (heap_lt h.blk) (by simp)];exact h.blk,h.mem.keep0 u,h.na,h.lo,Nat.le_trans h.bl u.size⟩
theorem LIn.kernel {w w1:World} {n0 a b m:Nat} {rv tv:Value} {K K1:KV} {F F1:List Nat} {M:MV} {p:MPtr} {refs:List Nat} {tabs:List TV} (h:LIn w n0 a b m rv tv K F M p refs tabs) (hk:KerAt w1 b K1 F1) (u:Upd F w w1) (s:Sub F w F1):LIn w1 n0 a b m rv tv K1 F1 M p refs tabs/\Fro n0 w w1:=by
 have hbl:=h.bl;refine ⟨⟨by rw [u.block a (heap_lt h.blk) h.na.1];exact h.blk,h.mem.kernel hk u s,⟨fun hm=>?_,h.na.2⟩,fun k hk=>?_,Nat.le_trans h.bl u.size⟩,Fro.of u fun k hk=>h.lo k (.inl hk)⟩
 ·rcases s a hm with h1 | h1
  ·exact h.na.1 h1
  ·have:=heap_lt h.blk;omega
 ·rcases hk with hk | hk
  ·rcases s k hk with h1 | h1
   ·exact h.lo k (.inl h1)
   ·omega
  ·exact h.lo k (.inr hk)
theorem LIn.model {w w1:World} {n0 a b m:Nat} {rv tv:Value} {K:KV} {F:List Nat} {M M':MV} {p:MPtr} {refs:List Nat} {tabs:List TV} (h:LIn w n0 a b m rv tv K F M p refs tabs) (e:ModE m p (F++p.all m) M' w w1):∃ p',LIn w1 n0 a b m rv tv K F M' p' refs tabs/\Fro n0 w w1:=by
 have hbl:=h.bl;obtain ⟨p',hm,u,s⟩:=h.mem.model e;refine ⟨p',⟨by rw [u.block a (heap_lt h.blk) h.na.2];exact h.blk,hm,⟨h.na.1,fun hm=>?_⟩,fun k hk=>?_,Nat.le_trans h.bl u.size⟩,Fro.of u fun k hk=>h.lo k (.inr (.inl hk))⟩
 ·rcases s a hm with h1 | h1
  ·exact h.na.2 h1
  ·have:=heap_lt h.blk;omega
 ·rcases hk with hk | hk | hk
  ·exact h.lo k (.inl hk)
  ·rcases s k hk with h1 | h1
   ·exact h.lo k (.inr (.inl h1))
   ·omega
  ·exact h.lo k (.inr (.inr hk))
theorem LIn.cells {w:World} {n0 a b m:Nat} {rv tv:Value} {K:KV} {F:List Nat} {M:MV} {p:MPtr} {refs:List Nat} {tabs:List TV} (h:LIn w n0 a b m rv tv K F M p refs tabs) :
  w.cell? ⟨a,0,none⟩=some (.pointer (some ⟨b,0,none⟩))/\w.cell? ⟨a,1,none⟩=some (.pointer (some ⟨m,0,none⟩))/\w.cell? ⟨a,2,none⟩=some rv/\w.cell? ⟨a,3,none⟩=some tv :=
 ⟨cell_at h.blk rfl,cell_at h.blk rfl,cell_at h.blk rfl,cell_at h.blk rfl⟩
end Go.Proofs.YtfkopmhpppeheaaGreat
