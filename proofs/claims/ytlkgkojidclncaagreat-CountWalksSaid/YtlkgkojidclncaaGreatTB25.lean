import Derived.Test.YtlkgkojidclncaaGreatTB14
import Derived.Test.YtlkgkojidclncaaGreatTB24
import Derived.Test.YtlkgkojidclncaaGreatTB17
import Derived.Test.YtlkgkojidclncaaGreatTB13
import Derived.Test.YtlkgkojidclncaaGreatTB12
import Derived.WalkKit
import Derived.ProofKit
import Derived.OpenShut
import Derived.ShutString
import Derived.ChangeOld
import Derived.ChangeSlices
import Derived.Below
import Derived.Deep.DeepCutAuto
set_option maxRecDepth 100000
set_option maxHeartbeats 1600000
namespace Go.Proofs.YtlkgkojidclncaaGreat
open Go.RowKit Go.Maps Go.ChangeMaps Go.WideShapes
theorem enters_sats2:Enters 126:=fun args w=>by simp [go_sem]
theorem sats_level (b kb r:Nat) (K:KV) (T:List DM) (q:KPtr) (w:World) (h:KerIn w b K T q) (hr:K.A.tk r=true) (hb:w.heap[kb]?=some (.cells #[.pointer (some ⟨b,0,none⟩)] 37 (0,0))) :
  Calls Tryz.prog 124 #[.int .u32 r,.pointer (some ⟨kb,0,none⟩)] w fun e w'=>e=.returned (.int .i64 (K.dep r))/\Upd [] w w':=by
 have k0:=cell_at (j:=0) hb rfl;have hrl:=h.ok.ref_lt hr;have HK:=Lib.hid h
 by_cases h2:r<2
 ·have hd2:decide (r<2)=true:=by simpa using h2
  have HCC:=Lib.hid (cconst_spec r w);rw [hd2] at HCC;have HV:=Lib.hid (vars_at b K _ w ⟨T,q,h,rfl⟩);have HD:=Lib.hid (h.ok.wf.dep_const h2);clear h hr hd2 h2
  go_enter Tryz.func124,Tryz.ntmps124
  go_wp2_with fail;refine HCC.out.mono ?_;rintro e w1 ⟨rfl,rfl⟩;go_wp2_with fail;refine HV.out.mono ?_;rintro e w1 ⟨rfl,rfl⟩;go_wp2_with fail;go_ret;exact ⟨by rw [HD.out];rfl,Upd.refl _ _⟩
 ·obtain ⟨p,v,hp,hpt,hv,hvl,h3,h4,hdp⟩:=h.ok.wf.node_at (by omega) hr
  have hd2:decide (r<2)=false:=by simpa using h2
  have HCC:=Lib.hid (cconst_spec r w);rw [hd2] at HCC
  have HN:Hid (∀ x,Upd [] w x->Calls Tryz.prog 122 #[.pointer (some ⟨b,0,none⟩),.int .u32 r] x fun e w'=>e=.returned (.agg #[.int .i64 (v:Int),.int .u32 p.lo,.int .u32 p.hi])/\Upd [] x w'):=fun x u=>by
   have:=cnode_spec b r K T q p x (HK.out.upd u (by simp)).mem (by omega) hp hpt;rw [hv] at this;exact this
  have HLV:Hid (∀ x,Upd [] w x->Calls Tryz.prog 125 #[.pointer (some ⟨b,0,none⟩),.int .i64 v] x fun e w'=>e=.returned (.tuple #[.int .i64 (K.lev v),.int .i64 0])/\w'=x):=fun x u =>
   level_at b v K _ x ⟨T,q,HK.out.upd u (by simp),rfl⟩ hvl
  have HKB:Hid (∀ x,Upd [] w x->x.cell? ⟨kb,0,none⟩=some (.pointer (some ⟨b,0,none⟩))):=fun x u=>u.cell0 k0
  have HD:=Lib.hid hdp;clear h hr hd2 h2 hp hpt hv hvl h3 h4 hdp
  go_enter Tryz.func124,Tryz.ntmps124
  go_wp2_with fail;refine HCC.out.mono ?_;rintro e w1 ⟨rfl,rfl⟩;go_upto_region 3 with fail;have hfd:=node_field0
  go_region_held3 (fun z=>z.cell? ⟨kb,0,none⟩=some (.pointer (some ⟨b,0,none⟩))) (first | exact HKB.out _ (Upd.refl _ _).drew | exact HKB.out _ HU1.out) (first
   | (go_at_call 122;refine (HN.out _ (Upd.refl _ _).drew).mono ?_;rintro e w2 ⟨rfl,hu⟩;have HU1:=Lib.hid hu.of_drew;clear hu)
   | (go_at_call 125;refine (HLV.out _ HU1.out).mono ?_;rintro e w3 ⟨rfl,rfl⟩))
  go_wp2_with fail;go_ret;exact ⟨by rw [HD.out];rfl,HU1.out⟩
theorem cb_sats (b kb lb r:Nat) (p:PlaceV) (K:KV) (T:List DM) (q:KPtr) (w:World) (h:KerIn w b K T q) (hb:w.heap[kb]?=some (.cells #[.pointer (some ⟨b,0,none⟩)] 37 (0,0)))
  (hl:w.heap[lb]?=some (.cells #[.func (Fn.func 124) #[] #[.pointer (some ⟨kb,0,none⟩)]] 168 (0,0))) (h2:2<=r) (hp:K.A.list[r]?=some p) (hpt:p.taken=true) :
  Calls Tryz.prog 126 #[.agg #[.int .i64 p.var,.int .u32 p.lo,.int .u32 p.hi],.int .u64 (u64m (K.satR p.lo)),.int .u64 (u64m (K.satR p.hi)),.pointer (some ⟨kb,0,none⟩),.pointer (some ⟨lb,0,none⟩)] w fun e w'=>e=.returned (.int .u64 (u64m (K.satR r)))/\Upd [] w w':=by
 obtain ⟨p',v,hp',_,hv,hvl,h3,h4,hdp⟩:=h.ok.wf.node_at h2 (ArenaV.tk_iff.2 ⟨p,hp,hpt⟩);rw [hp] at hp';obtain rfl:p=p':=Option.some.inj hp';have hbl:=h.ok.ord.below h.ok.wf h2 hp hpt;have hd1:=h.ok.wf.dep_le h.ok.ord h3;have hd2:=h.ok.wf.dep_le h.ok.ord h4;have hvs:=h.ok.wf.vs;rw [hdp] at hbl;have HSN:=Lib.hid (KV.satR_node h.ok.wf h.ok.ord h2 hp hpt);have HDP:=Lib.hid hdp;have hU1:Upd [] w (w.alloc (.cells #[.int .i64 (v:Int),.int .u32 p.lo,.int .u32 p.hi] 95 (0,0))):=(Upd.refl _ _).alloc _;have hbx:=heap_alloc_new w (.cells #[.int .i64 (v:Int),.int .u32 p.lo,.int .u32 p.hi] 95 (0,0))
 have HLV:Hid (∀ x,Upd [] w x->Calls Tryz.prog 125 #[.pointer (some ⟨b,0,none⟩),.int .i64 v] x fun e w'=>e=.returned (.tuple #[.int .i64 (K.lev v),.int .i64 0])/\w'=x):=fun x u =>
  level_at b v K _ x ⟨T,q,h.upd u (by simp),rfl⟩ hvl
 have HLO:Hid (∀ x,Upd [] w x->Calls Tryz.prog 124 #[.int .u32 p.lo,.pointer (some ⟨kb,0,none⟩)] x fun e w'=>e=.returned (.int .i64 (K.dep p.lo))/\Upd [] x w'):=fun x u =>
  sats_level b kb p.lo K T q x (h.upd u (by simp)) h3 ((u.block kb (heap_lt hb) (by simp)).trans hb)
 have HHI:Hid (∀ x,Upd [] w x->Calls Tryz.prog 124 #[.int .u32 p.hi,.pointer (some ⟨kb,0,none⟩)] x fun e w'=>e=.returned (.int .i64 (K.dep p.hi))/\Upd [] x w'):=fun x u =>
  sats_level b kb p.hi K T q x (h.upd u (by simp)) h4 ((u.block kb (heap_lt hb) (by simp)).trans hb)
 have HKB:Hid (∀ x,Upd [] (w.alloc (.cells #[.int .i64 (v:Int),.int .u32 p.lo,.int .u32 p.hi] 95 (0,0))) x->x.cell? ⟨lb,0,none⟩=some (.func (Fn.func 124) #[] #[.pointer (some ⟨kb,0,none⟩)])/\x.cell? ⟨w.heap.size,1,none⟩=some (.int .u32 p.lo)/\x.cell? ⟨w.heap.size,2,none⟩=some (.int .u32 p.hi)):=fun x u =>
  ⟨u.cell0 (hU1.cell0 (cell_at (j:=0) hl rfl)),u.cell0 (cell_at (j:=1) hbx rfl),u.cell0 (cell_at (j:=2) hbx rfl)⟩
 have k0:=hU1.cell0 (cell_at (j:=0) hb rfl);have k1:=cell_at (j:=0) hbx rfl;have HU1:=Lib.hid hU1;rw [hv];have HG:=Lib.hid (And.intro (rfl:u64m (K.satR p.lo)=u64m (K.satR p.lo)) (rfl:u64m (K.satR p.hi)=u64m (K.satR p.hi)));obtain ⟨glo,hglo⟩ : ∃ g,u64m (K.satR p.lo)=g:=⟨_,rfl⟩;obtain ⟨ghi,hghi⟩ : ∃ g,u64m (K.satR p.hi)=g:=⟨_,rfl⟩;obtain ⟨dl,hdl⟩ : ∃ g,K.dep p.lo=g:=⟨_,rfl⟩;obtain ⟨dh,hdh⟩ : ∃ g,K.dep p.hi=g:=⟨_,rfl⟩;obtain ⟨l,hll⟩ : ∃ g,K.lev v=g:=⟨_,rfl⟩;rw [hglo,hghi];rw [hdl] at HLO hd1 hbl;rw [hdh] at HHI hd2 hbl;rw [hll] at HLV hbl;have HE:=Lib.hid (And.intro hglo (And.intro hghi (And.intro hdl (And.intro hdh hll))));obtain ⟨hb1,hb2⟩:=hbl;obtain ⟨c1,hc1⟩ : ∃ c1,dl-l=c1:=⟨_,rfl⟩;obtain ⟨c2,hc2⟩ : ∃ c2,dh-l=c2:=⟨_,rfl⟩;obtain ⟨n1,hn1⟩ : ∃ n1,dl-l-1=n1:=⟨_,rfl⟩;obtain ⟨n2,hn2⟩ : ∃ n2,dh-l-1=n2:=⟨_,rfl⟩
 have m1:n1<=63:=by omega
 have m2:n2<=63:=by omega
 have s1:IntKind.i64.wrap ((dl:Int)-(l:Int))=(c1:Int):=by rw [IntWalk.i64_in _ (by omega)];omega
 have s2:IntKind.i64.wrap ((dh:Int)-(l:Int))=(c2:Int):=by rw [IntWalk.i64_in _ (by omega)];omega
 have s3:IntKind.i64.wrap ((c1:Int)-1)=(n1:Int):=by rw [IntWalk.i64_in _ (by omega)];omega
 have s4:IntKind.i64.wrap ((c2:Int)-1)=(n2:Int):=by rw [IntWalk.i64_in _ (by omega)];omega
 have HN:=Lib.hid (And.intro hn1 hn2)
 have HFI:Hid (IntKind.u64.wrap (IntKind.u64.wrap (glo*2 ^ n1)+IntKind.u64.wrap (ghi*2 ^ n2))=u64m (K.satR r)):=by
  show _=_
  have e2:∀ n:Nat,(2:Int) ^ n=((2 ^ n:Nat):Int):=fun n=>by simp
  rw [HSN.out,e2,e2,<- hglo,<- hghi,u64m_mul,u64m_mul,u64m_add,HDP.out,hdl,hdh,hll,hn1,hn2,Nat.mul_comm,Nat.mul_comm (K.satR p.hi)]
 clear hc1 hc2 hn1 hn2;clear h hb hl h2 hp hpt hv hvl h3 h4 hdp hbx hU1 hglo hghi hdl hdh hll hp' HG
 go_enter Tryz.func126,Tryz.ntmps126
 go_wp2_with fail;refine (HLV.out _ HU1.out).mono ?_;rintro e w1 ⟨rfl,rfl⟩;go_upto_region 2 with fail;generalize w.alloc (.cells #[.int .i64 (v:Int),.int .u32 p.lo,.int .u32 p.hi] 95 (0,0))=wA at *;generalize w.heap.size=B at *;clear k0 k1
 go_region_held3 (fun z=>z.cell? ⟨lb,0,none⟩=some (.func (Fn.func 124) #[] #[.pointer (some ⟨kb,0,none⟩)])/\z.cell? ⟨B,1,none⟩=some (.int .u32 p.lo)/\z.cell? ⟨B,2,none⟩=some (.int .u32 p.hi)) (first | exact HKB.out _ (Upd.refl _ _).drew | exact HKB.out _ HA2.out | exact HKB.out _ HA1.out) (first
  | ((with_reducible refine (HLO.out _ HU1.out.drew).mono ?_);rintro e w3 ⟨rfl,hu⟩;have HA1:=Lib.hid hu.of_drew;clear hu)
  | ((with_reducible refine (HHI.out _ (HU1.out.trans HA1.out)).mono ?_);rintro e w4 ⟨rfl,hu⟩;have HA2:=Lib.hid (HA1.out.trans hu);clear hu))
 go_wp2_with fail;go_ret;exact ⟨by rw [<- HFI.out];rfl,HU1.out.trans HA2.out⟩
theorem sats_spec (b f:Nat) (K:KV) (T:List DM) (q:KPtr) (w:World) (h:KerIn w b K T q) (hf:K.A.tk f=true) :
  Calls Tryz.prog 49 #[.pointer (some ⟨b,0,none⟩),.int .u32 f] w fun e w'=>AskQ2 b K T q (.int .u64 (u64m (satL K.order (K.den f)))) w e w':=by
 have hmf:∀ (fn:Fn) (first cap:Array Value) (w:World),(Instr.makeFunc fn first cap).run Tryz.prog w=.ok (.func fn first cap) w:=fun _ _ _ _=>rfl
 have hsf:∀ (a:Addr) (m:Mode) (fn:Fn) (first cap:Array Value) (w:World),(store a (.func fn first cap) m).run Tryz.prog w=stored Tryz.prog w a (.func fn first cap) m:=fun a m fn first cap w=>run_store Tryz.prog w a _ m rfl
 have HK:=Lib.hid h;have HF:=Lib.hid hf;have hvs:=h.ok.wf.vs;have hdl:=h.ok.wf.dep_le h.ok.ord hf;have HALL:=Lib.hid (KV.satR_all h.ok.wf h.ok.ord hf)
 have HL:Hid (∀ r,r∈[f]->K.A.tk r=true):=fun r hr=>by
  simp only [List.mem_singleton] at hr;subst hr;exact hf
 have hb0:=heap_alloc_new w (.cells #[.pointer (some ⟨b,0,none⟩)] 37 (0,0));have HU0:=Lib.hid ((Upd.refl [] w).alloc (.cells #[.pointer (some ⟨b,0,none⟩)] 37 (0,0)));obtain ⟨kb,hkb⟩ : ∃ kb,w.heap.size=kb:=⟨_,rfl⟩;rw [hkb] at hb0;have HKBE:=Lib.hid hkb;obtain ⟨w0,hw0⟩ : ∃ w0,w.alloc (.cells #[.pointer (some ⟨b,0,none⟩)] 37 (0,0))=w0:=⟨_,rfl⟩;rw [hw0] at hb0 HU0;have HW0:=Lib.hid hw0;have HB0:=Lib.hid hb0;have k0:=cell_at (j:=0) hb0 rfl;clear h hf hkb hw0
 go_enter Tryz.func49,Tryz.ntmps49
 go_upto_region 1 with fail;rw [HW0.out,HKBE.out];go_wp2_with fail;refine (clive_ok b K T q _ [f] _ (HK.out.upd (HU0.out.alloc _) (by simp)) (row_one w0 f) HL.out (by simp)).mono ?_;rintro e w1 ⟨rfl,hu⟩;have HU1:=Lib.hid (((Upd.refl [] w0).alloc _).trans hu);have k1:=HU1.out.cell0 k0;have hb1:w1.heap[kb]?=_:=(HU1.out.block kb (heap_lt HB0.out) (by simp)).trans HB0.out;have hlb:=heap_alloc_new w1 (.cells #[.func (Fn.func 124) #[] #[.pointer (some ⟨kb,0,none⟩)]] 168 (0,0));obtain ⟨w2,hw2⟩ : ∃ w2,w1.alloc (.cells #[.func (Fn.func 124) #[] #[.pointer (some ⟨kb,0,none⟩)]] 168 (0,0))=w2:=⟨_,rfl⟩
 have hu2:Upd [] w1 w2:=by rw [<- hw2];exact (Upd.refl _ _).alloc _
 rw [hw2] at hlb;have HW2:=Lib.hid hw2;have HU2:=Lib.hid (HU1.out.trans hu2);have hb2:w2.heap[kb]?=_:=(hu2.block kb (heap_lt hb1) (by simp)).trans hb1;have k2:=cell_at (j:=0) hb2 rfl;have l2:=cell_at (j:=0) hlb rfl;have HM2:=Lib.hid (And.intro hb2 hlb);clear hu hu2 hw2 hb1 hb2 hlb k0 hb0;go_upto_region 5 with fail;rw [HW2.out];generalize w1.heap.size=lb at *
 have HCB:Hid (FoldCb 126 #[.pointer (some ⟨kb,0,none⟩),.pointer (some ⟨lb,0,none⟩)] K (fun r=>u64m (K.satR r)) (fun z=>Upd [] w2 z)):=fun z r p hz h2 hp hpt =>
  cb_sats b kb lb r p K T q z (HK.out.upd ((HU0.out.trans HU2.out).trans hz) (by simp)) ((hz.block kb (heap_lt HM2.out.1) (by simp)).trans HM2.out.1) ((hz.block lb (heap_lt HM2.out.2) (by simp)).trans HM2.out.2) h2 hp hpt
 clear k1;go_wp2_with fail;refine (fold_spec b 126 f #[.pointer (some ⟨kb,0,none⟩),.pointer (some ⟨lb,0,none⟩)] K T q (fun r=>u64m (K.satR r)) w2 (HK.out.upd (HU0.out.trans HU2.out) (by simp)) enters_sats2 HCB.out (fun x=>u64m_wf _) (by rw [KV.satR_const HK.out.ok.wf HK.out.ok.ord (by omega)];exact u64m_small (by omega)) (by rw [KV.satR_const HK.out.ok.wf HK.out.ok.ord (by omega)];exact u64m_small (by omega)) HF.out).mono ?_;rintro e w3 ⟨rfl,hu,hk3⟩;have l3:=hu.cell0 l2;have hb3:w3.heap[kb]?=_:=(hu.block kb (heap_lt HM2.out.1) (by simp)).trans HM2.out.1;have HLV:=Lib.hid (sats_level b kb f K T q w3 hk3 HF.out hb3);have HE:=Lib.hid (And.intro hk3 ((HU0.out.trans HU2.out).trans hu));obtain ⟨g,hg⟩ : ∃ g,u64m (K.satR f)=g:=⟨_,rfl⟩;obtain ⟨d,hd⟩ : ∃ d,K.dep f=d:=⟨_,rfl⟩
 simp only [hg]
 rw [hd] at hdl HLV
 have HFI:Hid (IntKind.u64.wrap (g*2 ^ d)=u64m (satL K.order (K.den f))):=by
  show _=_
  have e2:∀ n:Nat,(2:Int) ^ n=((2 ^ n:Nat):Int):=fun n=>by simp
  rw [HALL.out,e2,<- hg,u64m_mul,hd,Nat.mul_comm]
 have hd64:d<=64:=by omega
 clear hu hk3 hb3 k2 l2 hg hd;go_wp2_with fail;refine HLV.out.mono ?_;rintro e w4 ⟨rfl,hu⟩;have HE4:Hid (KerIn w4 b K T q/\Upd [] w w4):=⟨HE.out.1.upd hu (by simp),HE.out.2.trans hu⟩;clear hu;go_wp2_with fail;go_ret2;exact ⟨by rw [<- HFI.out];rfl,HE4.out.1,HE4.out.2⟩
structure SesH (K:KV) (L:List (Nat × ((Nat->Bool)->Bool))) (c:Nat):Prop where
 g:SesG K L c
 hl:∀ r f,(r,f)∈L->0<K.hold r\/r<2
theorem SesH.new {n m:Nat} (h1:1<=n) (hn:n<=64) (h2:2<=m) (hm:m<=1048576):SesH (KV.new n m) [(0,fun _=>false),(1,fun _=>true)] 0:=by
 have hk:=KV.new_ok h1 hn h2 hm;refine ⟨⟨fun x=>by simp [KV.hold,KV.new],fun r f h=>?_⟩,fun r f h=>?_⟩
 ·simp at h
  rcases h with ⟨rfl,rfl⟩ | ⟨rfl,rfl⟩
  ·exact ⟨hk.tk_const (by omega),fun y=>KV.den_const _ (by omega) y⟩
  ·exact ⟨hk.tk_const (by omega),fun y=>KV.den_const _ (by omega) y⟩
 ·simp at h;omega
theorem SesH.same {K K':KV} {L:List (Nat × ((Nat->Bool)->Bool))} {c:Nat} (h:SesH K L c) (hk:K.Ok) (e:K.Ext K') (hd:∀ x,K'.hold x=K.hold x):SesH K' L c :=
 ⟨h.g.ext hk e fun x=>by rw [hd];exact h.g.hh x,fun r f hm=>by rw [hd];exact h.hl r f hm⟩
theorem SesH.push {K K':KV} {L:List (Nat × ((Nat->Bool)->Bool))} {c r:Nat} {t:(Nat->Bool)->Bool} (h:SesH K L c) (hk:K.Ok) (e:K.Ext K') (ht:K'.A.tk r=true) (hden:∀ y,K'.den r y=t y) (hd:∀ x,K'.hold x=K.hold x+if x=r/\2<=r then 1 else 0):SesH K' (L++[(r,t)]) (c+1):=by
 have g1:=h.g.ext hk e (c':=c+1) fun x=>by
  have:=h.g.hh x
  rw [hd];split <;> omega
 refine ⟨⟨g1.hh,fun s f hm=>?_⟩,fun s f hm=>?_⟩
 ·rcases List.mem_append.1 hm with hm | hm
  ·exact g1.nm s f hm
  ·simp at hm
   obtain ⟨rfl,rfl⟩:=hm;exact ⟨ht,hden⟩
 ·rcases List.mem_append.1 hm with hm | hm
  ·rcases h.hl s f hm with h1 | h1
   ·left;rw [hd];omega
   ·exact .inr h1
  ·simp at hm
   obtain ⟨rfl,rfl⟩:=hm
   by_cases h2:2<=s
   ·left;rw [hd,if_pos ⟨rfl,h2⟩];omega
   ·right;omega
theorem SesH.stay {K K':KV} {L:List (Nat × ((Nat->Bool)->Bool))} {c:Nat} (h:SesH K L c) (hk':K'.Ok) (s:Stay K K'):SesH K' L c:=by
 refine ⟨⟨fun x=>by rw [s.hd];exact h.g.hh x,fun r f hm=>?_⟩,fun r f hm=>by rw [s.hd];exact h.hl r f hm⟩;have h1:=h.hl r f hm;refine ⟨?_,fun y=>by rw [s.den r h1];exact (h.g.nm r f hm).2 y⟩
 rcases h1 with h1 | h1
 ·exact (hk'.wf.ht r (by rw [s.hd];exact h1)).2
 ·exact hk'.tk_const h1
structure Prot (X:Nat->Prop) (w w':World):Prop where
 os:w'.os=w.os
 tape:w'.tape=w.tape
 output:w'.output=w.output
 size:w.heap.size<=w'.heap.size
 block:∀ k,X k->k<w.heap.size->w'.heap[k]?=w.heap[k]?
theorem Prot.refl (X:Nat->Prop) (w:World):Prot X w w:=⟨rfl,rfl,rfl,Nat.le_refl _,fun _ _ _=>rfl⟩
theorem Prot.trans {X:Nat->Prop} {w w1 w2:World} (h:Prot X w w1) (k:Prot X w1 w2):Prot X w w2 :=
 ⟨k.os.trans h.os,k.tape.trans h.tape,k.output.trans h.output,Nat.le_trans h.size k.size,fun x hx hl=>(k.block x hx (Nat.lt_of_lt_of_le hl h.size)).trans (h.block x hx hl)⟩
theorem Prot.of {X:Nat->Prop} {S:List Nat} {w w1:World} (u:Upd S w w1) (h:∀ k,k∈S->¬ X k):Prot X w w1:=⟨u.os,u.tape,u.output,u.size,fun k hx hl=>u.block k hl fun hm=>h k hm hx⟩
theorem Prot.of0 {X:Nat->Prop} {w w1:World} (u:Upd [] w w1):Prot X w w1:=Prot.of u (by simp)
theorem Prot.weak {X Y:Nat->Prop} {w w1:World} (h:Prot X w w1) (hy:∀ k,Y k->X k):Prot Y w w1:=⟨h.os,h.tape,h.output,h.size,fun k hk=>h.block k (hy k hk)⟩
theorem Prot.row {X:Nat->Prop} {w w1:World} (h:Prot X w w1) {base:Nat} {e:TypeId} {sz:Nat} {v:Value} {n:Nat} {xs:List Value} (r:w.ownsRow base e sz v n xs) (hx:∀ k,v.ownBlock=some k->X k):w1.ownsRow base e sz v n xs :=
 row_keep r fun k hk=>h.block k (hx k hk) (r.lt k hk).2
theorem Prot.cell {X:Nat->Prop} {w w1:World} (h:Prot X w w1) {a:Addr} {v:Value} (hx:X a.block) (hc:w.cell? a=some v):w1.cell? a=some v :=
 (World.cell?_of_block (h.block _ hx (World.block_lt_of_cell? _ _ hc))).trans hc
def SesM (w:World) (b:Nat) (X:Nat->Prop) (n:Nat) (L:List (Nat × ((Nat->Bool)->Bool))) (c tl:Nat):Prop :=
 ∃ (K:KV) (F:List Nat),KerAt w b K F/\(∀ k,k∈F->¬ X k)/\(∀ k,X k->k<w.heap.size)/\K.vars=n/\SesH K L c/\K.trail.length<=tl/\K.A.places=4096
theorem SesM.then {w w':World} {b n c tl:Nat} {X Y:Nat->Prop} {S:List Nat} {L:List (Nat × ((Nat->Bool)->Bool))} (h:SesM w b X n L c tl) (u:Upd S w w') (hS:∀ k,k∈S->X k) (hY:∀ k,Y k->(X k\/w.heap.size<=k)/\k<w'.heap.size):SesM w' b Y n L c tl:=by
 obtain ⟨K,F,h1,h2,h3,h4,h5,h6⟩:=h;refine ⟨K,F,h1.upd u fun k hk hm=>h2 k hk (hS k hm),fun k hk hy=>?_,fun k hy=>(hY k hy).2,h4,h5,h6⟩
 rcases (hY k hy).1 with hx | hx
 ·exact h2 k hk hx
 ·have:=h1.lt k hk;omega
theorem SesM.keep0 {w w':World} {b n c tl:Nat} {X:Nat->Prop} {L:List (Nat × ((Nat->Bool)->Bool))} (h:SesM w b X n L c tl) (u:Upd [] w w'):SesM w' b X n L c tl:=by
 obtain ⟨K,F,h1,h2,h3,h4,h5,h6⟩:=h;exact ⟨K,F,h1.upd u (by simp),h2,fun k hk=>Nat.lt_of_lt_of_le (h3 k hk) u.size,h4,h5,h6⟩
structure SesMQ (b:Nat) (X:Nat->Prop) (n:Nat) (L:List (Nat × ((Nat->Bool)->Bool))) (c tl:Nat) (t:(Nat->Bool)->Bool) (w:World) (e:Ending) (w':World):Prop where
 ex:∃ (r:Nat) (code:Int),e=.returned (.tuple #[.int .u32 r,.int .i64 code])/\r<=4294967295/\((code=0/\SesM w' b X n (L++[(r,t)]) (c+1) tl)\/(code=9/\r=0/\SesM w' b X n L c tl))/\Prot X w w'
theorem SesMQ.of {b n c tl:Nat} {X:Nat->Prop} {K:KV} {q:KPtr} {L:List (Nat × ((Nat->Bool)->Bool))} {t t':(Nat->Bool)->Bool} {w w':World} {e:Ending} (hk:K.Ok) (h2:∀ k,k∈q.all b->¬ X k) (h3:∀ k,X k->k<w.heap.size) (hn:K.vars=n) (h4:SesH K L c) (hc:c<60) (htl:K.trail.length<=tl/\K.A.places=4096)
  (ht:∀ y,t y=t' y) (P:OpPost b K q t w e w'):SesMQ b X n L c tl t' w e w':=by
 obtain ⟨r,code,K',T',q',rfl,O,hk',hu,hs⟩:=P.ex
 have hF:∀ k,k∈q'.all b->¬ X k:=fun k hm hx=>by
  rcases hs k hm with h | h
  ·exact h2 k h hx
  ·have:=h3 k hx;omega
 have h3':∀ k,X k->k<w'.heap.size:=fun k hx=>Nat.lt_of_lt_of_le (h3 k hx) hu.size
 rcases O with ⟨rfl,O⟩ | ⟨_,_,_,s,_,_,hs⟩ | ⟨rfl,rfl,O,_⟩
 ·have S:=h4.push hk O.ext O.tk (fun y=>(O.den y).trans (ht y)) O.hd
  have:=hk'.ok.ref_lt O.tk;exact ⟨r,0,rfl,by omega,.inl ⟨rfl,K',_,⟨T',q',hk',rfl⟩,hF,h3',O.ext.vr.trans hn,S,by rw [O.tr];simp,O.ext.pl.trans htl.2⟩,Prot.of hu h2⟩
 ·have:=h4.g.hh s;omega
 ·refine ⟨0,9,rfl,by omega,.inr ⟨rfl,rfl,K',_,⟨T',q',hk',rfl⟩,hF,h3',O.ext.vr.trans hn,h4.same hk O.ext O.hd,?_,O.ext.pl.trans htl.2⟩,Prot.of hu h2⟩
  rcases O.tr with e | e
  ·rw [e];simp
  ·rw [e];exact htl.1
theorem not_sesM {b n c tl f:Nat} {F:(Nat->Bool)->Bool} {X:Nat->Prop} {L:List (Nat × ((Nat->Bool)->Bool))} {w:World} (h:SesM w b X n L c tl) (hc:c<60) (hf:(f,F)∈L) :
  Calls Tryz.prog 46 #[.pointer (some ⟨b,0,none⟩),.int .u32 f] w fun e w'=>SesMQ b X n L c tl (fun y=>!F y) w e w':=by
 obtain ⟨K,_,⟨T,q,hk,rfl⟩,h2,h3,hn,h4,h5⟩:=h;obtain ⟨a1,a3⟩:=h4.g.nm _ _ hf
 exact (not_live b f K T q w hk a1).mono fun e w' P=>.of hk.ok h2 h3 hn h4 hc h5 (fun y=>by show opB 3 _ _=_;rw [opB_not,a3]) P
theorem and_sesM {b n c tl f g:Nat} {F G:(Nat->Bool)->Bool} {X:Nat->Prop} {L:List (Nat × ((Nat->Bool)->Bool))} {w:World} (h:SesM w b X n L c tl) (hc:c<60) (hf:(f,F)∈L) (hg:(g,G)∈L) :
  Calls Tryz.prog 45 #[.pointer (some ⟨b,0,none⟩),.int .u32 f,.int .u32 g] w fun e w'=>SesMQ b X n L c tl (fun y=>F y&&G y) w e w':=by
 obtain ⟨K,_,⟨T,q,hk,rfl⟩,h2,h3,hn,h4,h5⟩:=h;obtain ⟨a1,a3⟩:=h4.g.nm _ _ hf;obtain ⟨b1,b3⟩:=h4.g.nm _ _ hg
 exact (and_live b f g K T q w hk a1 b1).mono fun e w' P=>.of hk.ok h2 h3 hn h4 hc h5 (fun y=>by show opB 8 _ _=_;rw [opB_and,a3,b3]) P
theorem or_sesM {b n c tl f g:Nat} {F G:(Nat->Bool)->Bool} {X:Nat->Prop} {L:List (Nat × ((Nat->Bool)->Bool))} {w:World} (h:SesM w b X n L c tl) (hc:c<60) (hf:(f,F)∈L) (hg:(g,G)∈L) :
  Calls Tryz.prog 44 #[.pointer (some ⟨b,0,none⟩),.int .u32 f,.int .u32 g] w fun e w'=>SesMQ b X n L c tl (fun y=>F y||G y) w e w':=by
 obtain ⟨K,_,⟨T,q,hk,rfl⟩,h2,h3,hn,h4,h5⟩:=h;obtain ⟨a1,a3⟩:=h4.g.nm _ _ hf;obtain ⟨b1,b3⟩:=h4.g.nm _ _ hg
 exact (or_live b f g K T q w hk a1 b1).mono fun e w' P=>.of hk.ok h2 h3 hn h4 hc h5 (fun y=>by show opB 14 _ _=_;rw [opB_or,a3,b3]) P
theorem xor_sesM {b n c tl f g:Nat} {F G:(Nat->Bool)->Bool} {X:Nat->Prop} {L:List (Nat × ((Nat->Bool)->Bool))} {w:World} (h:SesM w b X n L c tl) (hc:c<60) (hf:(f,F)∈L) (hg:(g,G)∈L) :
  Calls Tryz.prog 89 #[.pointer (some ⟨b,0,none⟩),.int .u32 f,.int .u32 g] w fun e w'=>SesMQ b X n L c tl (fun y=>F y != G y) w e w':=by
 obtain ⟨K,_,⟨T,q,hk,rfl⟩,h2,h3,hn,h4,h5⟩:=h;obtain ⟨a1,a3⟩:=h4.g.nm _ _ hf;obtain ⟨b1,b3⟩:=h4.g.nm _ _ hg
 exact (xor_live b f g K T q w hk a1 b1).mono fun e w' P=>.of hk.ok h2 h3 hn h4 hc h5 (fun y=>by show opB 6 _ _=_;rw [opB_xor,a3,b3]) P
theorem ite_sesM {b n c tl f g h:Nat} {F G H:(Nat->Bool)->Bool} {X:Nat->Prop} {L:List (Nat × ((Nat->Bool)->Bool))} {w:World} (hs:SesM w b X n L c tl) (hc:c<60) (hf:(f,F)∈L) (hg:(g,G)∈L) (hh:(h,H)∈L) :
  Calls Tryz.prog 90 #[.pointer (some ⟨b,0,none⟩),.int .u32 f,.int .u32 g,.int .u32 h] w fun e w'=>SesMQ b X n L c tl (fun y=>if F y then G y else H y) w e w':=by
 obtain ⟨K,_,⟨T,q,hk,rfl⟩,h2,h3,hn,h4,h5⟩:=hs;obtain ⟨a1,a3⟩:=h4.g.nm _ _ hf;obtain ⟨b1,b3⟩:=h4.g.nm _ _ hg;obtain ⟨c1,c3⟩:=h4.g.nm _ _ hh
 exact (ite_live b f g h K T q w hk a1 b1 c1).mono fun e w' P=>.of hk.ok h2 h3 hn h4 hc h5 (fun y=>by show (if _ then _ else _)=_;rw [a3,b3,c3]) P
theorem var_sesM {b n c tl v:Nat} {X:Nat->Prop} {L:List (Nat × ((Nat->Bool)->Bool))} {w:World} (h:SesM w b X n L c tl) (hc:c<60) (hv:v<n) :
  Calls Tryz.prog 47 #[.pointer (some ⟨b,0,none⟩),.int .i64 v] w fun e w'=>SesMQ b X n L c tl (fun y=>y v) w e w':=by
 obtain ⟨K,_,⟨T,q,hk,rfl⟩,h2,h3,hn,h4,h5⟩:=h
 refine (var_live b v K T q w hk).mono fun e w' P=>?_
 obtain ⟨r,code,K',T',q',rfl,M,hk',hu,hs⟩:=P.ex
 have hF:∀ k,k∈q'.all b->¬ X k:=fun k hm hx=>by
  rcases hs k hm with h | h
  ·exact h2 k h hx
  ·have:=h3 k hx;omega
 have h3':∀ k,X k->k<w'.heap.size:=fun k hx=>Nat.lt_of_lt_of_le (h3 k hx) hu.size
 have hko:=hk.ok
 have hvv:v<K.vars:=by omega
 have hfe:K.fitsE (v:Int) 0 1=0:=KV.fits_ok (by omega) (hko.tk_const (by omega)) (hko.tk_const (by omega)) fun _=>by
  have:=(hko.ord.pm.lo v hvv).1;rw [hko.wf.dep_const (by omega),hko.wf.dep_const (by omega)];omega
 have key:∀ (K1:KV),K1.Ok->∀ s,K1.At s v 0 1->K1.A.tk s=true/\∀ y,K1.den s y=y v:=fun K1 k1 s hs=>by
  obtain ⟨h2,p,hp,hpt,e1,e2,e3⟩:=hs;refine ⟨ArenaV.tk_iff.2 ⟨p,hp,hpt⟩,fun y=>?_⟩;rw [KV.den_node k1.wf k1.ord h2 hp hpt,e2,e3,K1.den_const (by omega),K1.den_const (by omega),show p.var.toNat=v by omega]
  cases y v <;> rfl
 have fin:∀ (r:Nat),K.Ext K'->K'.A.tk r=true->(∀ y,K'.den r y=y v)->(∀ x,K'.hold x=K.hold x+if x=r/\2<=r then 1 else 0)->K'.trail=[]->SesMQ b X n L c tl (fun y=>y v) w (.returned (.tuple #[.int .u32 r,.int .i64 0])) w':=fun r e ht hd hh htr=>by
  have:=hk'.ok.ref_lt ht;exact ⟨r,0,rfl,by omega,.inl ⟨rfl,K',_,⟨T',q',hk',rfl⟩,hF,h3',e.vr.trans hn,h4.push hko e ht hd hh,by rw [htr];simp,e.pl.trans h5.2⟩,Prot.of hu h2⟩
 cases M with
 | bad h0=>exact absurd hfe h0
 | full h0 hs hm=>exact absurd (hm ▸ h4.g.hh _) (by omega)
 | old h0 hs hm =>
  have hs':K.At r v 0 1:=by
   rcases hs with ⟨e,_⟩ | ⟨_,hs⟩
   ·omega
   ·simpa using hs
  obtain ⟨t1,t2⟩:=key K hko r hs';have X:=(hko.kept t1 hm).2;exact fin r X.ext (X.ext.tk t1) (fun y=>by rw [X.ext.den hko.wf y t1,t2]) (fun x=>by rw [X.hd];split <;> rfl) X.tr
 | nodes h0 hne hno hu'=>exact ⟨0,9,rfl,by omega,.inr ⟨rfl,rfl,K,_,⟨T',q',hk',rfl⟩,hF,h3',hn,h4,h5⟩,Prot.of hu h2⟩
 | new h0 hne hno hm =>
  have hm':K.Made v 0 1 r K':=by simpa using hm
  have hat:K'.At r v 0 1:=hm'.at_iff.2 (.inl ⟨rfl,rfl,rfl,rfl⟩);obtain ⟨t1,t2⟩:=key K' hk'.ok r hat
  have h0:K.hold r=0:=by
   by_cases hp:0<K.hold r
   ·have:=(hko.wf.ht r hp).2
    rw [hm'.no] at this;cases this
   ·omega
  refine fin r hm'.ext t1 t2 (fun x=>?_) hm'.tr;have:=hm'.two;rw [hm'.hd]
  by_cases e:x=r
  ·subst e;rw [if_pos rfl,if_pos ⟨rfl,this⟩,h0]
  ·rw [if_neg e,if_neg (fun k=>e k.1)];rfl
structure SesXQ (b:Nat) (X:Nat->Prop) (n:Nat) (L:List (Nat × ((Nat->Bool)->Bool))) (c tl:Nat) (w:World) (e:Ending) (w':World):Prop where
 ex:∃ code:Int,e=.returned (.int .i64 code)/\(code=0\/code=1\/code=9)/\SesM w' b X n L c (tl+1)/\Prot X w w'
theorem exch_sesM {b n c tl:Nat} {l:Int} {X:Nat->Prop} {L:List (Nat × ((Nat->Bool)->Bool))} {w:World} (h:SesM w b X n L c tl) (ht:tl<=1000000) :
  Calls Tryz.prog 25 #[.pointer (some ⟨b,0,none⟩),.int .i64 l] w fun e w'=>SesXQ b X n L c tl w e w':=by
 obtain ⟨K,_,⟨T,q,hk,rfl⟩,h2,h3,hn,h4,h5,h6⟩:=h
 refine (exchange_spec b l K T q w hk (by omega)).mono fun e w' P=>?_
 obtain ⟨code,K',T',q',rfl,hk',hu,hs,hc⟩:=P.ex
 have hF:∀ k,k∈q'.all b->¬ X k:=fun k hm hx=>by
  rcases hs k hm with h | h
  ·exact h2 k h hx
  ·have:=h3 k hx;omega
 have h3':∀ k,X k->k<w'.heap.size:=fun k hx=>Nat.lt_of_lt_of_le (h3 k hx) hu.size
 rcases hc with ⟨rfl,_,rfl⟩ | ⟨m,_,_,C,N,_,_,⟨rfl,_,rfl⟩ | ⟨rfl,_,K1,X,_,rfl⟩⟩
 ·exact ⟨1,rfl,.inr (.inl rfl),⟨K',_,⟨T',q',hk',rfl⟩,hF,h3',hn,h4,by omega,h6⟩,Prot.of hu h2⟩
 ·exact ⟨9,rfl,.inr (.inr rfl),⟨K',_,⟨T',q',hk',rfl⟩,hF,h3',hn,h4,by omega,h6⟩,Prot.of hu h2⟩
 ·have hk1:K1.Ok:=by
   have:=hk'.ok;exact ⟨⟨this.wf.ok,this.wf.len,this.wf.ul,this.wf.tu,this.wf.ht,this.wf.hm,this.wf.eq,this.wf.pt,this.wf.cl,this.wf.vr,this.wf.vs⟩,this.pos,this.ord.same rfl rfl rfl rfl,fun x hx=>this.tl x (List.mem_append.2 (.inl hx))⟩
  have S:Stay K (K1.addT m):=X.stay hk.ok hk1
  exact ⟨0,rfl,.inl rfl,⟨K1.addT m,_,⟨T',q',hk',rfl⟩,hF,h3',S.vr.trans hn,h4.stay hk'.ok S,by
   show (K1.trail++[m]).length<=_
   rw [X.tr];simp;omega,X.pl.trans h6⟩,Prot.of hu h2⟩
end Go.Proofs.YtlkgkojidclncaaGreat
namespace Go.Proofs.YtlkgkojidclncaaGreat
open Go.ChangeShapes Go.WideShapes Go.ChangeAt Go.RowKit
theorem own_knob:ownKnob Tryz.prog.godebug=none:=by kernel_rfl
theorem laid_out:laidOutB Tryz.prog=true:=by kernel_rfl
theorem okWide_row {P:Program} {w:World} {r:Reach} {base:Nat} {t:TypeId} {v:Value} {fs:Array Field} (ht:P.underlying t=some (.struct fs)) (h:Value.okWide P w r base t v):∃ cs,v=.agg cs/\cs.size=P.cellsOf t/\Row.okWide P w r base t cs:=by
 unfold Value.okWide at h;rw [ht] at h;exact h
theorem intSize:Tryz.prog.cellsOf 3=1:=by kernel_rfl
theorem u64Size:Tryz.prog.cellsOf 75=1:=by kernel_rfl
theorem intsSize:Tryz.prog.cellsOf 23=1:=by kernel_rfl
theorem u64sSize:Tryz.prog.cellsOf 53=1:=by kernel_rfl
theorem wf_u64 {x:Int} (h:(Lit.int .u64 x).wf=true):U64 x:=by
 simp only [Lit.wf,Bool.and_eq_true,decide_eq_true_eq] at h
 have e1:IntKind.u64.min=0:=rfl;have e2:IntKind.u64.max=18446744073709551615:=rfl;unfold U64;omega
structure RowC (w:World) (k:IntKind) (a:Option Addr) (n c:Nat) (zs:List Int):Prop where
 row:RowOf w k a n zs
 nc:n<=c
 cm:c<=maxLen
 wf:∀ z,z∈zs->(Lit.int k z).wf=true
theorem RowC.keep0 {w w':World} {k:IntKind} {a:Option Addr} {n c:Nat} {zs:List Int} (h:RowC w k a n c zs) (u:Upd [] w w'):RowC w' k a n c zs:=⟨h.row.keep0 u,h.nc,h.cm,h.wf⟩
theorem RowC.of_ints {H:Type} {W:World} {k:IntKind} {cs:List Value} {x:DataW H × List MemPlace}
  (h:(cs=[.slice none 0 0]/\x=(.nil,[])) \/
  ∃ (a:Addr) (len cap:Nat) (zs:List Int),cs=[.slice (some a) len cap]/\0<=a.block/\len<=cap/\cap<=maxLen/\zs.length=(if (fun _:Nat=>true) a.block then cap else len) /\
   x=(.slice (lits k (zs.take len)) (lits k (zs.drop len)),MemPlace.row a zs.length) /\
   (∀ i,i<zs.length->W.cell? (a.add i)=some (.int k (zs.getD i 0)))/\(∀ n∈zs,(Lit.int k n).wf=true)) :
  ∃ (a:Option Addr) (n c:Nat) (Zs:List Int),cs=[.slice a n c]/\RowC W k a n c Zs:=by
 rcases h with ⟨rfl,_⟩ | ⟨a,len,cap,zs,rfl,_,hl,hm,hz,_,hc,hw⟩
 ·exact ⟨none,0,0,[],rfl,⟨rfl,Nat.zero_le _,fun i hi=>by omega⟩,Nat.le_refl _,Nat.zero_le _,fun z hz=>by cases hz⟩
 ·have hz':zs.length=cap:=by simpa using hz
  refine ⟨some a,len,cap,zs.take len,rfl,⟨by rw [List.length_take];omega,by omega,fun i hi=>⟨a,rfl,?_⟩⟩,hl,hm,fun z hz=>hw z (List.mem_of_mem_take hz)⟩;rw [hc i (by omega),List.getD_eq_getElem?_getD,List.getD_eq_getElem?_getD,List.getElem?_take_of_lt hi]
structure OpV where
 k:Int
 a:Int
 b:Int
 c:Int
 o:Int
 lo:Option Addr
 ln:Nat
 lc:Nat
 L:List Int
 d:Bool
def OpV.cells (o:OpV):List Value:=[.int .i64 o.k,.int .i64 o.a,.int .i64 o.b,.int .i64 o.c,.int .u8 o.o,.slice o.lo o.ln o.lc,.bool o.d]
structure OpsOf (w:World) (a:Option Addr) (n c:Nat) (Os:List OpV):Prop where
 len:Os.length=n
 nc:n<=c
 cm:c<=maxLen
 at_:∀ i,i<n->∃ (g:Addr) (o:OpV),a=some g/\Os[i]?=some o/\(∀ j v,o.cells[j]?=some v->w.cell? ((g.add (i*7)).add j)=some v)/\RowC w .i64 o.lo o.ln o.lc o.L/\(Lit.int .u8 o.o).wf=true
theorem OpsOf.keep0 {w w':World} {a:Option Addr} {n c:Nat} {Os:List OpV} (h:OpsOf w a n c Os) (u:Upd [] w w'):OpsOf w' a n c Os :=
 ⟨h.len,h.nc,h.cm,fun i hi=>by obtain ⟨g,o,e1,e2,e3,e4,e5⟩:=h.at_ i hi;exact ⟨g,o,e1,e2,fun j v hv=>u.cell0 (e3 j v hv),e4.keep0 u,e5⟩⟩
theorem opSize:Tryz.prog.cellsOf 67=7:=by kernel_rfl
theorem u8Size:Tryz.prog.cellsOf 5=1:=by kernel_rfl
theorem boolSize:Tryz.prog.cellsOf 4=1:=by kernel_rfl
theorem wideSize:Tryz.prog.cellsOf 55=5:=by kernel_rfl
theorem opsSize:Tryz.prog.cellsOf 52=1:=by kernel_rfl
theorem op_cells {H:Type} {enc:TypeId × Value->H} {W:World} {fuel:Nat} {cs:List Value} {x:DataW H × List MemPlace} (h:DataW.trod enc Tryz.prog W 0 (fun _=>true) true fuel 67 cs=some x) :
  ∃ o:OpV,cs=o.cells/\RowC W .i64 o.lo o.ln o.lc o.L/\(Lit.int .u8 o.o).wf=true:=by
 obtain ⟨ys,m,_,_,hsz,hl,hf⟩:=Go.DataW.trod_struct Tryz.underlying67 h;rw [opSize] at hsz
 match cs,hsz with
 | [c0,c1,c2,c3,c4,c5,c6],_ =>
  match ys,hl with
  | [y0,y1,y2,y3,y4,y5,y6],_ =>
   have h0:=hf 0 _ rfl;have h1:=hf 1 _ rfl;have h2:=hf 2 _ rfl;have h3:=hf 3 _ rfl;have h4:=hf 4 _ rfl;have h5:=hf 5 _ rfl;have h6:=hf 6 _ rfl
   simp [intSize,intsSize,u8Size,boolSize] at h0 h1 h2 h3 h4 h5 h6
   obtain ⟨k,e0,_,_⟩:=Go.DataW.trod_int Tryz.underlying3 h0;obtain ⟨a,e1,_,_⟩:=Go.DataW.trod_int Tryz.underlying3 h1;obtain ⟨b,e2,_,_⟩:=Go.DataW.trod_int Tryz.underlying3 h2;obtain ⟨c,e3,_,_⟩:=Go.DataW.trod_int Tryz.underlying3 h3;obtain ⟨o,e4,_,hw⟩:=Go.DataW.trod_int Tryz.underlying5 h4;obtain ⟨lo,ln,lc,L,e5,hL⟩:=RowC.of_ints (open_ints Tryz.underlying23 Tryz.underlying3 intSize h5);obtain ⟨d,e6,_⟩:=Go.DataW.trod_bool Tryz.underlying4 h6
   simp at e0 e1 e2 e3 e4 e5 e6
   subst e0 e1 e2 e3 e4 e5 e6;exact ⟨⟨k,a,b,c,o,lo,ln,lc,L,d⟩,rfl,hL,hw⟩
theorem OpsOf.of_trod {H:Type} {enc:TypeId × Value->H} {W:World} {fuel:Nat} {cs:List Value} {x:DataW H × List MemPlace} (h:DataW.trod enc Tryz.prog W 0 (fun _=>true) true fuel 52 cs=some x) :
  ∃ (a:Option Addr) (n c:Nat) (Os:List OpV),cs=[.slice a n c]/\OpsOf W a n c Os:=by
 rcases Go.DataW.trod_slice Tryz.underlying52 h with ⟨rfl,_⟩ | ⟨a,len,cap,elems,rest,n,_,rfl,_,_,hl,hm,hlen,hel,_,_⟩
 ·exact ⟨none,0,0,[],rfl,rfl,Nat.le_refl _,Nat.zero_le _,fun i hi=>by omega⟩
 ·rw [opSize] at hel
  have each:∀ i,i<len->∃ o:OpV,(∀ j v,o.cells[j]?=some v->W.cell? ((a.add (i*7)).add j)=some v)/\RowC W .i64 o.lo o.ln o.lc o.L/\(Lit.int .u8 o.o).wf=true:=fun i hi=>by
   have h1:=hel i hi;rw [List.getElem?_eq_getElem (by omega)] at h1;obtain ⟨cs',hc,ht⟩:=Option.bind_eq_some_iff.1 h1;obtain ⟨o,rfl,hr,hw⟩:=op_cells ht;obtain ⟨_,h7,hcell⟩:=World.cells?_some hc;refine ⟨o,fun j v hv=>?_,hr,hw⟩;rw [hcell j (by rw [<- h7];exact (List.getElem?_eq_some_iff.1 hv).1)];exact hv
  refine ⟨some a,len,cap,(List.range len).pmap (fun i hi=>Classical.choose (each i hi)) (fun i hi=>List.mem_range.1 hi),rfl,by simp,hl,hm,fun i hi=>?_⟩;have hc:=Classical.choose_spec (each i hi);exact ⟨a,Classical.choose (each i hi),rfl,by simp [hi],hc⟩
theorem wide_shape {H:Type} {enc:TypeId × Value->H} {W:World} {r:Reach} {base:Nat} {v:Value} {d:DataW H} {p:List MemPlace} (h:Value.okWide Tryz.prog W r base 55 v) (hd:DataW.Trod enc Tryz.prog W 0 (fun _=>true) true 55 v d p) :
  ∃ (n room:Int) (la sa pa:Option Addr) (ln lc sn sc pn pc:Nat) (Ls Ps:List Int) (Os:List OpV),v=.agg #[.int .i64 n,.int .i64 room,.slice la ln lc,.slice sa sn sc,.slice pa pn pc]/\RowC W .i64 la ln lc Ls/\OpsOf W sa sn sc Os/\RowC W .u64 pa pn pc Ps:=by
 obtain ⟨cs,rfl,hsz,_⟩:=okWide_row Tryz.underlying55 h;obtain ⟨fuel,hd⟩:=hd;have hsz:=hsz.trans wideSize;obtain ⟨l⟩:=cs
 match l,hsz with
 | [c0,c1,c2,c3,c4],_ =>
  obtain ⟨ys,m,_,_,_,hl,hf⟩:=Go.DataW.trod_struct Tryz.underlying55 hd
  match ys,hl with
  | [y0,y1,y2,y3,y4],_ =>
   have h0:=hf 0 _ rfl;have h1:=hf 1 _ rfl;have h2:=hf 2 _ rfl;have h3:=hf 3 _ rfl;have h4:=hf 4 _ rfl
   simp [Value.cells,intSize,intsSize,u64sSize,opsSize] at h0 h1 h2 h3 h4
   obtain ⟨n,e0,_,_⟩:=Go.DataW.trod_int Tryz.underlying3 h0;obtain ⟨room,e1,_,_⟩:=Go.DataW.trod_int Tryz.underlying3 h1;obtain ⟨la,ln,lc,Ls,e2,hL⟩:=RowC.of_ints (open_ints Tryz.underlying23 Tryz.underlying3 intSize h2);obtain ⟨sa,sn,sc,Os,e3,hS⟩:=OpsOf.of_trod h3;obtain ⟨pa,pn,pc,Ps,e4,hP⟩:=RowC.of_ints (open_ints Tryz.underlying53 Tryz.underlying75 u64Size h4)
   simp at e0 e1 e2 e3 e4
   subst e0 e1 e2 e3 e4;exact ⟨n,room,la,sa,pa,ln,lc,sn,sc,pn,pc,Ls,Ps,Os,rfl,hL,hS,hP⟩
theorem spot_none {w:World} {a:Addr} {v:Value} (h:w.cell? a=some v):a=⟨a.block,a.off,none⟩:=by
 obtain ⟨b,o,s⟩:=a;unfold World.cell? at h
 split at h
 ·split at h
  ·cases h
  ·rename_i hs
   cases s with
   | none=>rfl
   | some s=>simp at hs
 ·cases h
theorem addr_addo (g o j:Nat):(⟨g,o,none⟩ : Addr).add j=⟨g,o+j,none⟩:=by unfold Addr.add;split <;> simp_all
theorem OpsOf.op {w:World} {a:Option Addr} {n c i:Nat} {Os:List OpV} (h:OpsOf w a n c Os) (hi:i<n) :
  ∃ (g:Addr) (o:OpV) (B O:Nat),a=some g/\Os[i]?=some o/\g.add (i*7)=⟨B,O,none⟩/\B<w.heap.size/\(∀ j v,o.cells[j]?=some v->w.cell? ⟨B,O+j,none⟩=some v)/\RowC w .i64 o.lo o.ln o.lc o.L/\(Lit.int .u8 o.o).wf=true:=by
 obtain ⟨g,o,e1,e2,e3,e4,e5⟩:=h.at_ i hi;have h0:=e3 0 _ rfl
 have ea:(g.add (i*7)).add 0=g.add (i*7):=by unfold Addr.add;simp
 rw [ea] at h0;have es:=spot_none h0;refine ⟨g,o,(g.add (i*7)).block,(g.add (i*7)).off,e1,e2,es,World.block_lt_of_cell? _ _ h0,fun j v hv=>?_,e4,e5⟩;have:=e3 j v hv;rw [es] at this;rw [addr_addo] at this;exact this
end Go.Proofs.YtlkgkojidclncaaGreat
