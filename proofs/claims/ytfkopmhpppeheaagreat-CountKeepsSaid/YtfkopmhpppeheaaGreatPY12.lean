import Derived.Test.YtfkopmhpppeheaaGreatPY11
import Derived.Test.YtfkopmhpppeheaaGreatPY5
import Derived.Deep.RegionHeld3
import Derived.Deep.RegionHeld
set_option maxRecDepth 100000
set_option maxHeartbeats 3200000
namespace Go.Proofs.YtfkopmhpppeheaaGreat
open Go.RowKit Go.Maps Go.ChangeMaps Go.WideShapes
structure SeenF (V:List Nat) (D:DM):Prop where
 im:IsMap D
 has:∀ r:Nat,r<=4294967295->(Maps.has D (.int .u32 r)=true↔r∈V)
 dom:∀ k,Maps.has D k=true->∃ r:Nat,k=.int .u32 r/\r<1048576
theorem SeenF.nil:SeenF [] (.map []):=⟨isMap_empty,fun r _=>by simp [Maps.has],fun k h=>by simp [Maps.has] at h⟩
theorem SeenF.put {V:List Nat} {D:DM} {r:Nat} (h:SeenF V D) (hr:r<1048576) (d:DM):SeenF (V++[r]) (D.put (.int .u32 r) d):=by
 have hl:WideAt.IsKeyLit (.int .u32 (r:Int)):=trivial
 have inj:∀ x:Nat,x≠r->(Lit.int .u32 (x:Int))≠.int .u32 (r:Int):=fun x hx e=>hx (by simp at e;omega)
 refine ⟨h.im.put _ _,fun x hx=>?_,fun k hk=>?_⟩
 ·by_cases e:x=r
  ·subst e;simp [has_put_same h.im hl]
  ·rw [has_put_other (inj x e),h.has x hx];simp [e]
 ·by_cases e:k=.int .u32 (r:Int)
  ·exact ⟨r,e,hr⟩
  ·rw [has_put_other e] at hk;exact h.dom k hk
theorem seenF_size {V:List Nat} {D:DM} (h:SeenF V D) (hc:Maps.Canon D) (ht:Tidy D):Maps.size D<maxLen:=by
 have:=size_le_keys hc (ks:=(List.range 1048576).map fun (r:Nat)=>Lit.int .u32 (r:Int)) (fun k hk=>by
  obtain ⟨r,rfl,hr⟩:=h.dom k hk
  exact List.mem_map.2 ⟨r,List.mem_range.2 hr,rfl⟩) ht
 simp only [List.length_map,List.length_range] at this
 unfold maxLen;omega
structure KnU (G:Nat->Int) (V:List Nat) (D:DM):Prop where
 seen:SeenF V D
 val:∀ r,r∈V->∀ z,D.atKey (.int .u32 r) z=.lit (.int .u64 (G r))
theorem KnU.put {G:Nat->Int} {V:List Nat} {D:DM} {r:Nat} (h:KnU G V D) (hr:r<1048576):KnU G (V++[r]) (D.put (.int .u32 r) (.lit (.int .u64 (G r)))):=by
 have hl:WideAt.IsKeyLit (.int .u32 (r:Int)):=trivial
 have inj:∀ x:Nat,x≠r->(Lit.int .u32 (x:Int))≠.int .u32 (r:Int):=fun x hx e=>hx (by simp at e;omega)
 refine ⟨h.seen.put hr _,fun x hx z=>?_⟩
 by_cases e:x=r
 ·subst e;exact atKey_put_same h.seen.im hl _ z
 ·rw [atKey_put_other (inj x e)];exact h.val x (by simpa [e] using hx) z
theorem wfU {n:Nat} (h:n<=18446744073709551615):(Lit.int .u64 n).wf=true:=WalkArith.wf_u64 ⟨by omega,by omega⟩
theorem zeroU64 (w:World):(zeroValue 90).run Tryz.prog w=.ok (.int .u64 0) w:=by kernel_rfl
structure FoldM (w:World) (b ck ckk cf cw mb fl:Nat) (caps:Array Value) (K:KV) (T:List DM) (q:KPtr) (D:DM):Prop where
 ker:KerIn w b K T q
 bk:w.heap[ck]?=some (.cells #[.map (some mb)] 302 (0,0))
 bkk:w.heap[ckk]?=some (.cells #[.pointer (some ⟨b,0,none⟩)] 40 (0,0))
 bf:w.heap[cf]?=some (.cells #[.func (Fn.func fl) #[] caps] 259 (0,0))
 bw:w.heap[cw]?=some (.cells #[.func (Fn.func 234) #[] #[.pointer (some ⟨ck,0,none⟩),.pointer (some ⟨ckk,0,none⟩),.pointer (some ⟨cf,0,none⟩),.pointer (some ⟨cw,0,none⟩)]] 303 (0,0))
 map:w.ownsMap Tryz.prog 77 (plainElem Tryz.prog 90) mb (Maps.size D) D
 dq:∀ k,k∈q.all b->k≠mb
 dm:mb≠ck/\mb≠ckk/\mb≠cf/\mb≠cw
theorem FoldM.keep {w w':World} {b ck ckk cf cw mb fl:Nat} {caps:Array Value} {K:KV} {T:List DM} {q:KPtr} {D:DM} (h:FoldM w b ck ckk cf cw mb fl caps K T q D) (u:Upd [] w w') :
  FoldM w' b ck ckk cf cw mb fl caps K T q D:=by
 have e:∀ {k:Nat} {o:Obj},w.heap[k]?=some o->w'.heap[k]?=some o:=fun {k o} hk=>by rw [u.block k (heap_lt hk) (by simp)];exact hk
 exact ⟨h.ker.upd u (by simp),e h.bk,e h.bkk,e h.bf,e h.bw,own_keep h.map (u.block _ h.map.lt (by simp)),h.dq,h.dm⟩
theorem FoldM.put {w w':World} {b ck ckk cf cw mb fl:Nat} {caps:Array Value} {K:KV} {T:List DM} {q:KPtr} {D D':DM} (h:FoldM w b ck ckk cf cw mb fl caps K T q D) (u:Upd [mb] w w') (hm:w'.ownsMap Tryz.prog 77 (plainElem Tryz.prog 90) mb (Maps.size D') D') :
  FoldM w' b ck ckk cf cw mb fl caps K T q D':=by
 have e:∀ {k:Nat} {o:Obj},mb≠k->w.heap[k]?=some o->w'.heap[k]?=some o:=fun {k o} hn hk=>by rw [u.block k (heap_lt hk) (by simp;exact Ne.symm hn)];exact hk
 exact ⟨h.ker.upd u (fun k hk hm=>by simp at hm;exact h.dq k hk hm),e h.dm.1 h.bk,e h.dm.2.1 h.bkk,e h.dm.2.2.1 h.bf,e h.dm.2.2.2 h.bw,hm,h.dq,h.dm⟩
def FoldCb (fl:Nat) (caps:Array Value) (K:KV) (G:Nat->Int) (S:World->Prop):Prop :=
 ∀ (w:World) (r:Nat) (p:PlaceV),S w->2<=r->K.A.list[r]?=some p->p.taken=true->Calls Tryz.prog fl (#[.agg #[.int .i64 p.var,.int .u32 p.lo,.int .u32 p.hi],.int .u64 (G p.lo),.int .u64 (G p.hi)]++caps) w fun e w'=>e=.returned (.int .u64 (G r))/\Upd [] w w'
structure FoldQ (b ck ckk cf cw mb fl:Nat) (caps:Array Value) (K:KV) (T:List DM) (q:KPtr) (G:Nat->Int) (S:World->Prop) (w w':World):Prop where
 ex:∃ (V:List Nat) (D:DM),KnU G V D/\0∈V/\1∈V/\FoldM w' b ck ckk cf cw mb fl caps K T q D/\Upd [mb] w w'/\S w'
def FoldHyp (b ck ckk cf cw mb fl:Nat) (caps:Array Value) (K:KV) (T:List DM) (q:KPtr) (G:Nat->Int) (S:World->Prop) (d:Nat):Prop :=
 ∀ (r:Nat) (V:List Nat) (D:DM) (w:World),FoldM w b ck ckk cf cw mb fl caps K T q D->KnU G V D->0∈V->1∈V->S w->K.A.tk r=true->d<=K.dep r ->
  Calls Tryz.prog 234 #[.int .u32 r,.pointer (some ⟨ck,0,none⟩),.pointer (some ⟨ckk,0,none⟩),.pointer (some ⟨cf,0,none⟩),.pointer (some ⟨cw,0,none⟩)] w fun e w' =>
   e=.returned (.int .u64 (G r))/\FoldQ b ck ckk cf cw mb fl caps K T q G S w w'
theorem fold_known (b ck ckk cf cw mb fl:Nat) (caps:Array Value) (K:KV) (T:List DM) (q:KPtr) (G:Nat->Int) (S:World->Prop) (r:Nat) (V:List Nat) (D:DM) (w:World)
  (hM:FoldM w b ck ckk cf cw mb fl caps K T q D) (hV:KnU G V D) (h0:0∈V) (h1:1∈V) (hS:S w) (hr:r<=4294967295) (hin:r∈V) :
  Calls Tryz.prog 234 #[.int .u32 r,.pointer (some ⟨ck,0,none⟩),.pointer (some ⟨ckk,0,none⟩),.pointer (some ⟨cf,0,none⟩),.pointer (some ⟨cw,0,none⟩)] w fun e w' =>
   e=.returned (.int .u64 (G r))/\FoldQ b ck ckk cf cw mb fl caps K T q G S w w':=by
 have HE:Hid (FoldQ b ck ckk cf cw mb fl caps K T q G S w w):=⟨V,D,hV,h0,h1,hM,Upd.refl _ _,hS⟩;have ck0:=cell_at (j:=0) hM.bk rfl;obtain ⟨x,ps,hrun,hx⟩:=hM.map.look_ok refKeyed Tryz.underlying302 (zeroU64 w) (plainElem_int (H:=Unit) Tryz.underlying90 (wfU (n:=0) (by omega))) (keyOf_int_mk Tryz.underlying77 (wfR hr));obtain ⟨c,rfl,hat,hwc⟩:=plainElem_int_inv Tryz.underlying90 hx;have hat0:=congrArg Prod.fst hat;have hh:=(hV.seen.has r hr).2 hin
 have hcr:c=G r:=by
  have h:=hV.val r hin (.lit (.int .u64 0))
  simp at hat0
  rw [h] at hat0
  simp at hat0;exact hat0.symm
 subst hcr;rw [hh] at hrun;clear hM hV hS hat hat0 hx hh
 go_enter Tryz.func234,Tryz.ntmps234
 go_wp2_with fail;go_ret;exact ⟨rfl,HE.out⟩
theorem fold_new (b ck ckk cf cw mb fl:Nat) (caps:Array Value) (K:KV) (T:List DM) (q:KPtr) (G:Nat->Int) (S:World->Prop) (r:Nat) (V:List Nat) (D:DM) (w:World) (hen:Enters fl) (hCb:FoldCb fl caps K G S) (hSS:∀ w w':World,S w->Upd [mb] w w'->S w') (hG:∀ x,(Lit.int .u64 (G x)).wf=true)
  (hM:FoldM w b ck ckk cf cw mb fl caps K T q D) (hV:KnU G V D) (h0:0∈V) (h1:1∈V) (hS:S w) (h2:2<=r) (ht:K.A.tk r=true) (hnin:r∉V) (IH:FoldHyp b ck ckk cf cw mb fl caps K T q G S (K.dep r+1)) :
  Calls Tryz.prog 234 #[.int .u32 r,.pointer (some ⟨ck,0,none⟩),.pointer (some ⟨ckk,0,none⟩),.pointer (some ⟨cf,0,none⟩),.pointer (some ⟨cw,0,none⟩)] w fun e w' =>
   e=.returned (.int .u64 (G r))/\FoldQ b ck ckk cf cw mb fl caps K T q G S w w':=by
 have hok:=hM.ker.ok;have hrl:=hok.ref_lt ht
 have hr:r<=4294967295:=by omega
 obtain ⟨p,v,hp,hpt,hpv,hvl,tlo,thi,hdep⟩:=hok.wf.node_at h2 ht;have hb:=hok.ord.below hok.wf h2 hp hpt;have ck0:=cell_at (j:=0) hM.bk rfl;have ckk0:=cell_at (j:=0) hM.bkk rfl;obtain ⟨x,ps,hrun,hx⟩:=hM.map.look_ok refKeyed Tryz.underlying302 (zeroU64 w) (plainElem_int (H:=Unit) Tryz.underlying90 (wfU (n:=0) (by omega))) (keyOf_int_mk Tryz.underlying77 (wfR hr));obtain ⟨c,rfl,_,_⟩:=plainElem_int_inv Tryz.underlying90 hx
 have hno:Maps.has D (.int .u32 r)=false:=by
  cases e:Maps.has D (.int .u32 r) with
  | false=>rfl
  | true=>exact absurd ((hV.seen.has r hr).1 e) hnin
 rw [hno] at hrun;have HM:=Lib.hid (And.intro hM (And.intro hV (And.intro h0 (And.intro h1 hS))));have HP:=Lib.hid (And.intro hp (And.intro hpt (And.intro hpv (And.intro hvl (And.intro tlo (And.intro thi (And.intro hb hok)))))));have HIH:=Lib.hid IH;have HCB:=Lib.hid (And.intro hCb (And.intro hSS hG));have HEN:Hid (∀ (args:Array Value) (w:World),(callFunc fl args).run Tryz.prog w=.ok (.enter fl args) w):=hen;clear hM hV h0 h1 hS hp hpt hpv hvl tlo thi hb hok IH hCb hSS hen hno hdep hx hG
 go_enter Tryz.func234,Tryz.ntmps234
 go_wp2_with fail;refine (cnode_spec b r K T q p w HM.out.1.ker.mem hr HP.out.1 HP.out.2.1).mono ?_;rintro e w2 ⟨rfl,hu2⟩;have HU2:=Lib.hid (hu2.alloc (.cells #[.int .i64 p.var,.int .u32 p.lo,.int .u32 p.hi] 116 (0,0)));have hbx:=heap_alloc_new w2 (.cells #[.int .i64 p.var,.int .u32 p.lo,.int .u32 p.hi] 116 (0,0));have hml:mb<w2.heap.size:=(HM.out.1.keep hu2).map.lt
 have HH:Hid (∀ z:World,Upd [mb] (w2.alloc (.cells #[.int .i64 p.var,.int .u32 p.lo,.int .u32 p.hi] 116 (0,0))) z->(z.cell? ⟨cf,0,none⟩=some (.func (Fn.func fl) #[] caps)/\z.cell? ⟨cw,0,none⟩=some (.func (Fn.func 234) #[] #[.pointer (some ⟨ck,0,none⟩),.pointer (some ⟨ckk,0,none⟩),.pointer (some ⟨cf,0,none⟩),.pointer (some ⟨cw,0,none⟩)])/\z.cell? ⟨w2.heap.size,0,none⟩=some (.int .i64 p.var)/\z.cell? ⟨w2.heap.size,1,none⟩=some (.int .u32 p.lo)/\z.cell? ⟨w2.heap.size,2,none⟩=some (.int .u32 p.hi))/\z.cell? ⟨ck,0,none⟩=some (.map (some mb))):=fun z u=>by
  have hM2:=HM.out.1.keep HU2.out
  have e:∀ {k:Nat} {o:Obj},mb≠k->(w2.alloc (.cells #[.int .i64 p.var,.int .u32 p.lo,.int .u32 p.hi] 116 (0,0))).heap[k]?=some o->z.heap[k]?=some o:=fun {k o} hn hk=>by rw [u.block k (heap_lt hk) (by simp;exact Ne.symm hn)];exact hk
  have hx:=e (by omega) hbx;exact ⟨⟨cell_at (j:=0) (e hM2.dm.2.2.1 hM2.bf) rfl,cell_at (j:=0) (e hM2.dm.2.2.2 hM2.bw) rfl,cell_at (j:=0) hx rfl,cell_at (j:=1) hx rfl,cell_at (j:=2) hx rfl⟩,cell_at (j:=0) (e hM2.dm.1 hM2.bk) rfl⟩
 have HM2:=Lib.hid (And.intro (HM.out.1.keep HU2.out) (HCB.out.2.1 _ _ HM.out.2.2.2.2 (HU2.out.mono (by simp))))
 have HL:Hid (∀ (z:World),Upd [mb] (w2.alloc (.cells #[.int .i64 p.var,.int .u32 p.lo,.int .u32 p.hi] 116 (0,0))) z->FoldM z b ck ckk cf cw mb fl caps K T q D->Calls Tryz.prog 234 #[.int .u32 p.lo,.pointer (some ⟨ck,0,none⟩),.pointer (some ⟨ckk,0,none⟩),.pointer (some ⟨cf,0,none⟩),.pointer (some ⟨cw,0,none⟩)] z fun e w' =>
   e=.returned (.int .u64 (G p.lo))/\FoldQ b ck ckk cf cw mb fl caps K T q G S z w'):=fun z u hz =>
  HIH.out p.lo V D z hz HM.out.2.1 HM.out.2.2.1 HM.out.2.2.2.1 (HCB.out.2.1 _ _ HM2.out.2 u) HP.out.2.2.2.2.1 HP.out.2.2.2.2.2.2.1.1
 have HR:Hid (∀ (z:World) (V1:List Nat) (D1:DM),FoldM z b ck ckk cf cw mb fl caps K T q D1->KnU G V1 D1->0∈V1->1∈V1->S z->Calls Tryz.prog 234 #[.int .u32 p.hi,.pointer (some ⟨ck,0,none⟩),.pointer (some ⟨ckk,0,none⟩),.pointer (some ⟨cf,0,none⟩),.pointer (some ⟨cw,0,none⟩)] z fun e w' =>
   e=.returned (.int .u64 (G p.hi))/\FoldQ b ck ckk cf cw mb fl caps K T q G S z w'):=fun z V1 D1 hz hk k0 k1 hs =>
  HIH.out p.hi V1 D1 z hz hk k0 k1 hs HP.out.2.2.2.2.2.1 HP.out.2.2.2.2.2.2.1.2
 have HF:Hid (∀ z:World,S z->Calls Tryz.prog fl (#[.agg #[.int .i64 p.var,.int .u32 p.lo,.int .u32 p.hi],.int .u64 (G p.lo),.int .u64 (G p.hi)]++caps) z fun e w'=>e=.returned (.int .u64 (G r))/\Upd [] z w'):=fun z hs=>HCB.out.1 z r p hs h2 HP.out.1 HP.out.2.1
 have hvp:∃ vn:Int,p.var=vn:=⟨_,rfl⟩;clear hu2 hbx;generalize hGl:G p.lo=gl at *;generalize hGh:G p.hi=gh at *;generalize hGr:G r=gr at *;have HG:=Lib.hid (And.intro hGl (And.intro hGh hGr));generalize hlo:p.lo=lo at *;generalize hhi:p.hi=hi at *;generalize hvv:p.var=vv at *;clear hGl hGh hGr hvp hlo hhi hvv;have hen:=HEN.out;go_upto_region 5 with fail;generalize w2.alloc (.cells #[.int .i64 vv,.int .u32 lo,.int .u32 hi] 116 (0,0))=wA at *;generalize w2.heap.size=B at *;clear ck0 ckk0 hrun
 go_region_held3 (fun z=>z.cell? ⟨cf,0,none⟩=some (.func (Fn.func fl) #[] caps)/\z.cell? ⟨cw,0,none⟩=some (.func (Fn.func 234) #[] #[.pointer (some ⟨ck,0,none⟩),.pointer (some ⟨ckk,0,none⟩),.pointer (some ⟨cf,0,none⟩),.pointer (some ⟨cw,0,none⟩)])/\z.cell? ⟨B,0,none⟩=some (.int .i64 vv)/\z.cell? ⟨B,1,none⟩=some (.int .u32 lo)/\z.cell? ⟨B,2,none⟩=some (.int .u32 hi)) (first | exact (HH.out _ (Upd.refl _ _).drew).1 | exact (HH.out _ HA3.out.1).1 | exact (HH.out _ HA2.out.1).1 | exact (HH.out _ HA1.out.1).1) (first
  | ((with_reducible refine (HL.out _ (Upd.refl _ _).drew (HM2.out.1.keep (Upd.refl _ _).drew)).mono ?_);rintro e w3 ⟨rfl,hQ⟩;obtain ⟨V1,D1,k1,k2,k3,k4,k5,k6⟩:=hQ.ex;have HA1:=Lib.hid (And.intro (show Upd [mb] wA w3 from k5.of_drew) (And.intro k1 (And.intro k2 (And.intro k3 (And.intro k4 k6)))));clear hQ k1 k2 k3 k4 k5 k6)
  | ((with_reducible refine (HR.out _ _ _ HA1.out.2.2.2.2.1 HA1.out.2.1 HA1.out.2.2.1 HA1.out.2.2.2.1 HA1.out.2.2.2.2.2).mono ?_);rintro e w4 ⟨rfl,hQ⟩;obtain ⟨V2,D2,k1,k2,k3,k4,k5,k6⟩:=hQ.ex;have HA2:=Lib.hid (And.intro (HA1.out.1.trans k5) (And.intro k1 (And.intro k2 (And.intro k3 (And.intro k4 k6)))));clear hQ k1 k2 k3 k4 k5 k6)
  | ((with_reducible refine (HF.out _ HA2.out.2.2.2.2.2).mono ?_);rintro e w5 ⟨rfl,hu⟩;have HA3:=Lib.hid (And.intro (HA2.out.1.trans (hu.mono (by simp))) hu);clear hu))
 have hM5:=HA2.out.2.2.2.2.1.keep HA3.out.2;have hk:=HA2.out.2.1;have hsz:=seenF_size hk.seen (hM5.map.canon refKeyed) (hM5.map.tidy refKeyed)
 have hwg:(Lit.int .u64 gr).wf=true:=by rw [<- HG.out.2.2];exact HCB.out.2.2 r
 obtain ⟨w9,hrun9,hown,hturn⟩:=hM5.map.store refKeyed Tryz.underlying302 hsz (keyOf_int_mk Tryz.underlying77 (wfR hr)) (plainElem_int (H:=Unit) Tryz.underlying90 hwg);have hu9:=upd_turned hturn;have ck5:=cell_at (j:=0) hM5.bk rfl;have hk9:=hk.put hrl;rw [HG.out.2.2] at hk9;have HE:Hid (FoldQ b ck ckk cf cw mb fl caps K T q G S w w9):=⟨V2++[r],_,hk9,List.mem_append.2 (.inl HA2.out.2.2.1),List.mem_append.2 (.inl HA2.out.2.2.2.1),hM5.put hu9 (own_tight hown),(HU2.out.mono (by simp)).trans (HA3.out.1.trans hu9),HCB.out.2.1 _ _ HA2.out.2.2.2.2.2 ((HA3.out.2.mono (by simp)).trans hu9)⟩;clear hM5 hk hsz hown hturn hu9 hk9 hwg hen;go_wp2_with fail;go_ret;exact ⟨by rw [HG.out.2.2];rfl,HE.out⟩
theorem foldAt_spec (b ck ckk cf cw mb fl:Nat) (caps:Array Value) (K:KV) (T:List DM) (q:KPtr) (G:Nat->Int) (S:World->Prop) (hen:Enters fl) (hCb:FoldCb fl caps K G S) (hSS:∀ w w':World,S w->Upd [mb] w w'->S w') (hG:∀ x,(Lit.int .u64 (G x)).wf=true):∀ (n d:Nat),K.vars+1-d<=n->FoldHyp b ck ckk cf cw mb fl caps K T q G S d
 | n,d,hn=>by
  intro r V D w hM hV h0 h1 hS ht hd
  have hok:=hM.ker.ok;have hr:=hok.ref_lt ht
  by_cases hin:r∈V
  ·exact fold_known b ck ckk cf cw mb fl caps K T q G S r V D w hM hV h0 h1 hS (by omega) hin
  ·have h2:2<=r:=by
    rcases Nat.lt_or_ge r 2 with h | h
    ·have:r=0\/r=1:=by omega
     rcases this with rfl | rfl
     ·exact absurd h0 hin
     ·exact absurd h1 hin
    ·exact h
   have hl:=hok.wf.dep_lt hok.ord h2 ht
   match n,hn with
   | 0,hn=>omega
   | n+1,hn =>
    exact fold_new b ck ckk cf cw mb fl caps K T q G S r V D w hen hCb hSS hG hM hV h0 h1 hS h2 ht hin (foldAt_spec b ck ckk cf cw mb fl caps K T q G S hen hCb hSS hG n (K.dep r+1) (by omega))
end Go.Proofs.YtfkopmhpppeheaaGreat
namespace Go.Proofs.YtfkopmhpppeheaaGreat
def satL:List Nat->((Nat->Bool)->Bool)->Nat
 | [],F=>if F (fun _=>false) then 1 else 0
 | v::vs,F=>satL vs (fun y=>F (upd y v false))+satL vs (fun y=>F (upd y v true))
theorem satL_congr:∀ (vs:List Nat) {F G:(Nat->Bool)->Bool},(∀ y,F y=G y)->satL vs F=satL vs G
 | [],F,G,h=>by unfold satL;rw [h]
 | v::vs,F,G,h=>by
  unfold satL;rw [satL_congr vs (fun y=>h (upd y v false)),satL_congr vs (fun y=>h (upd y v true))]
theorem satL_skip:∀ (us vs:List Nat) (F:(Nat->Bool)->Bool),(∀ u,u∈us->∀ y b,F (upd y u b)=F y)->satL (us++vs) F=2 ^ us.length*satL vs F
 | [],vs,F,_=>by simp
 | u::us,vs,F,h=>by
  have h0:=satL_skip us vs F (fun x hx=>h x (List.mem_cons_of_mem _ hx))
  have e0:satL (us++vs) (fun y=>F (upd y u false))=satL (us++vs) F:=satL_congr _ fun y=>h u (List.mem_cons_self ..) y false
  have e1:satL (us++vs) (fun y=>F (upd y u true))=satL (us++vs) F:=satL_congr _ fun y=>h u (List.mem_cons_self ..) y true
  simp only [List.cons_append,satL,List.length_cons,Nat.pow_succ]
  rw [e0,e1,h0,Nat.mul_comm (2 ^ us.length) 2,Nat.mul_assoc];omega
def KV.satR (K:KV) (r:Nat):Nat:=satL (K.order.drop (K.dep r)) (K.den r)
theorem KV.satR_const {K:KV} {P:List Nat} (h:K.Wf P) (ho:K.Ord) {r:Nat} (h2:r<2):K.satR r=r:=by
 unfold KV.satR;rw [h.dep_const h2,List.drop_eq_nil_of_le (by rw [ho.pm.ol];omega)]
 simp only [satL]
 rw [K.den_const h2]
 match r,h2 with
 | 0,_=>rfl
 | 1,_=>rfl
theorem KV.satL_drop {K:KV} {P:List Nat} (h:K.Wf P) (ho:K.Ord) {r:Nat} (ht:K.A.tk r=true) {l:Nat} (hl:l<=K.dep r):satL (K.order.drop l) (K.den r)=2 ^ (K.dep r-l)*K.satR r:=by
 have hd:=h.dep_le ho ht
 have e:K.order.drop l=(K.order.drop l).take (K.dep r-l)++K.order.drop (K.dep r):=by
  have:=List.take_append_drop (K.dep r-l) (K.order.drop l);rw [List.drop_drop,show l+(K.dep r-l)=K.dep r by omega] at this;exact this.symm
 have hlen:((K.order.drop l).take (K.dep r-l)).length=K.dep r-l:=by
  rw [List.length_take,List.length_drop,ho.pm.ol];omega
 rw [e,satL_skip _ _ _ (fun u hu y b=>?_),hlen]
 ·rfl
 ·obtain ⟨j,hj,hju⟩:=List.getElem_of_mem hu
  rw [hlen] at hj;rw [List.getElem_take,List.getElem_drop] at hju
  have hg:K.order.getD (l+j) 0=u:=by
   rw [List.getD_eq_getElem?_getD,List.getElem?_eq_getElem (by rw [ho.pm.ol];omega)];exact hju
  have:=ho.pm.oo (l+j) (by omega);rw [hg] at this;exact KV.den_upd h ho ht this.1 (by omega) y b
theorem KV.satR_node {K:KV} {P:List Nat} (h:K.Wf P) (ho:K.Ord) {r:Nat} {p:PlaceV} (h2:2<=r) (hp:K.A.list[r]?=some p) (hpt:p.taken=true) :
  K.satR r=2 ^ (K.dep p.lo-K.dep r-1)*K.satR p.lo+2 ^ (K.dep p.hi-K.dep r-1)*K.satR p.hi:=by
 have ht:K.A.tk r=true:=ArenaV.tk_iff.2 ⟨p,hp,hpt⟩;obtain ⟨p',v,hp',_,hv,hvl,h3,h4,hd⟩:=h.node_at h2 ht;rw [hp] at hp';obtain rfl:p=p':=Option.some.inj hp';have hb:=ho.below h h2 hp hpt;have hl:=h.dep_lt ho h2 ht;have hlo:=ho.pm.lo v hvl
 have e:K.order.drop (K.dep r)=v::K.order.drop (K.dep r+1):=by
  rw [List.drop_eq_getElem_cons (by rw [ho.pm.ol];exact hl)]
  congr 1
  have:=hlo.2;rw [<- hd,List.getD_eq_getElem?_getD,List.getElem?_eq_getElem (by rw [ho.pm.ol];exact hl)] at this;exact this
 have ev:p.var.toNat=v:=by omega
 have elo:satL (K.order.drop (K.dep r+1)) (fun y=>K.den r (upd y v false))=satL (K.order.drop (K.dep r+1)) (K.den p.lo):=satL_congr _ fun y=>by
  rw [<- ev];exact KV.den_lo h ho h2 hp hpt y
 have ehi:satL (K.order.drop (K.dep r+1)) (fun y=>K.den r (upd y v true))=satL (K.order.drop (K.dep r+1)) (K.den p.hi):=satL_congr _ fun y=>by
  rw [<- ev];exact KV.den_hi h ho h2 hp hpt y
 have e1:=KV.satL_drop h ho h3 (l:=K.dep r+1) hb.1;have e2:=KV.satL_drop h ho h4 (l:=K.dep r+1) hb.2;have e3:K.satR r=satL (K.order.drop (K.dep r)) (K.den r):=rfl;rw [e3,e]
 simp only [satL]
 rw [elo,ehi,e1,e2,show K.dep p.lo-(K.dep r+1)=K.dep p.lo-K.dep r-1 by omega,show K.dep p.hi-(K.dep r+1)=K.dep p.hi-K.dep r-1 by omega]
theorem KV.satR_all {K:KV} {P:List Nat} (h:K.Wf P) (ho:K.Ord) {r:Nat} (ht:K.A.tk r=true):satL K.order (K.den r)=2 ^ K.dep r*K.satR r:=by
 have:=KV.satL_drop h ho ht (l:=0) (Nat.zero_le _)
 simpa using this
def KV.wayF (K:KV):Nat->Nat->Nat
 | 0,r=>r
 | n+1,r=>if r<2 then r else match K.A.list[r]? with | some p=>K.wayF n p.lo+K.wayF n p.hi | none=>0
def KV.way (K:KV) (r:Nat):Nat:=K.wayF (K.vars+1) r
theorem KV.wayF_eq {K:KV} {P:List Nat} (h:K.Wf P) (ho:K.Ord):∀ (n m r:Nat),K.A.tk r=true->K.vars-K.dep r<n->K.vars-K.dep r<m->K.wayF n r=K.wayF m r:=by
 intro n
 induction n with
 | zero=>intro m r _ hn;omega
 | succ n ih =>
  intro m r ht hn hm
  obtain ⟨m,rfl⟩ : ∃ k,m=k+1:=⟨m-1,by omega⟩;unfold KV.wayF;split
  ·rfl
  ·rename_i h2
   obtain ⟨p,v,hp,hpt,hv,hvl,h3,h4,hd⟩:=h.node_at (by omega) ht;have hb:=ho.below h (by omega) hp hpt;have hl:=h.dep_lt ho (by omega:2<=r) ht;rw [hp]
   simp only
   rw [ih m p.hi h4 (by omega) (by omega),ih m p.lo h3 (by omega) (by omega)]
theorem KV.way_const (K:KV) {r:Nat} (h:r<2):K.way r=r:=by
 unfold KV.way KV.wayF;rw [if_pos h]
theorem KV.way_node {K:KV} {P:List Nat} (h:K.Wf P) (ho:K.Ord) {r:Nat} {p:PlaceV} (h2:2<=r) (hp:K.A.list[r]?=some p) (hpt:p.taken=true) :
  K.way r=K.way p.lo+K.way p.hi:=by
 have hb:=ho.below h h2 hp hpt;have hc:=h.cl r p h2 hp hpt;have hl:=h.dep_le ho hc.1;have hl2:=h.dep_le ho hc.2
 have e:K.way r=K.wayF K.vars p.lo+K.wayF K.vars p.hi:=by
  show K.wayF (K.vars+1) r=_
  rw [KV.wayF,if_neg (by omega),hp]
 rw [e];have e1:K.wayF K.vars p.hi=K.way p.hi:=KV.wayF_eq h ho _ _ _ hc.2 (by omega) (by omega);have e2:K.wayF K.vars p.lo=K.way p.lo:=KV.wayF_eq h ho _ _ _ hc.1 (by omega) (by omega);rw [e1,e2]
end Go.Proofs.YtfkopmhpppeheaaGreat
namespace Go.Proofs.YtfkopmhpppeheaaGreat
open Go.RowKit Go.Maps Go.ChangeMaps Go.WideShapes
theorem own_emptyU {W:World} {mb:Nat} (h:W.heap[mb]?=some (.map #[] 0)):W.ownsMap Tryz.prog 77 (plainElem (H:=Unit) Tryz.prog 90) mb 0 (.map []):=by
 obtain ⟨es,clock,q1,q2,q3,q4⟩:=World.ownsMap_made W Tryz.prog 77 (plainElem (H:=Unit) Tryz.prog 90);rw [heap_alloc_new] at q1;cases q1;exact ⟨#[],0,h,q2,Nat.zero_le _,rfl⟩
theorem KnU.nil (G:Nat->Int):KnU G [] (.map []):=⟨SeenF.nil,by simp⟩
theorem fold_spec (b fl r:Nat) (caps:Array Value) (K:KV) (T:List DM) (q:KPtr) (G:Nat->Int) (w:World) (hk:KerIn w b K T q) (hen:Enters fl) (hCb:FoldCb fl caps K G (fun z=>Upd [] w z)) (hG:∀ x,(Lit.int .u64 (G x)).wf=true) (g0:G 0=0) (g1:G 1=1) (ht:K.A.tk r=true) :
  Calls Tryz.prog 184 #[.pointer (some ⟨b,0,none⟩),.int .u32 r,.int .u64 0,.int .u64 1,.func (Fn.func fl) #[] caps] w fun e w'=>e=.returned (.int .u64 (G r))/\Upd [] w w'/\KerIn w' b K T q:=by
 have hmf:∀ (fn:Fn) (first cap:Array Value) (w:World),(Instr.makeFunc fn first cap).run Tryz.prog w=.ok (.func fn first cap) w:=fun _ _ _ _=>rfl
 have hmm:=@run_makeMap Tryz.prog
 have hsf:∀ (a:Addr) (m:Mode) (fn:Fn) (first cap:Array Value) (w:World),(store a (.func fn first cap) m).run Tryz.prog w=stored Tryz.prog w a (.func fn first cap) m:=fun a m fn first cap w=>run_store Tryz.prog w a _ m rfl
 have hb2:=heap_alloc_new (((w.alloc (.cells #[.pointer (some ⟨b,0,none⟩)] 40 (0,0)))).alloc (.cells #[.func (Fn.func fl) #[] caps] 259 (0,0))) (.map #[] 0);have n0:=(heap_alloc_old _ (.cells #[.func (Fn.func fl) #[] caps] 259 (0,0)) (heap_lt (heap_alloc_new w (.cells #[.pointer (some ⟨b,0,none⟩)] 40 (0,0))))).trans (heap_alloc_new w (.cells #[.pointer (some ⟨b,0,none⟩)] 40 (0,0)));have n0':=(heap_alloc_old _ (.map #[] 0) (heap_lt n0)).trans n0;have n1:=heap_alloc_new (w.alloc (.cells #[.pointer (some ⟨b,0,none⟩)] 40 (0,0))) (.cells #[.func (Fn.func fl) #[] caps] 259 (0,0));have n1':=(heap_alloc_old _ (.map #[] 0) (heap_lt n1)).trans n1;rw [World.size_alloc,World.size_alloc] at hb2;rw [World.size_alloc] at n1';have hu3:Upd [] w ((((w.alloc (.cells #[.pointer (some ⟨b,0,none⟩)] 40 (0,0)))).alloc (.cells #[.func (Fn.func fl) #[] caps] 259 (0,0))).alloc (.map #[] 0)):=(((Upd.refl [] w).alloc _).alloc _).alloc _;obtain ⟨w4,hrun4,hown4,hturn4⟩:=(own_emptyU hb2).store refKeyed Tryz.underlying302 (by unfold maxLen;omega) (keyOf_int_mk Tryz.underlying77 (wfR (n:=0) (by omega))) (plainElem_int (H:=Unit) Tryz.underlying90 (wfU (n:=0) (by omega)));have hK1:KnU G ([]++[0]) ((DataW.map []).put (.int .u32 (0:Nat)) (.lit (.int .u64 (G 0)))):=(KnU.nil G).put (by omega);rw [g0] at hK1;have hown4':=own_tight hown4;obtain ⟨w5,hrun5,hown5,hturn5⟩:=hown4'.store refKeyed Tryz.underlying302 (seenF_size hK1.seen (hown4'.canon refKeyed) (hown4'.tidy refKeyed)) (keyOf_int_mk Tryz.underlying77 (wfR (n:=1) (by omega))) (plainElem_int (H:=Unit) Tryz.underlying90 (wfU (n:=1) (by omega)));have hK2:=hK1.put (r:=1) (by omega);rw [g1] at hK2;have hu5:Upd [w.heap.size+1+1] _ w5:=(upd_turned hturn4).trans (upd_turned hturn5)
 have hU5:Upd [] w w5:=hu3.then hu5 fun k hk=>.inr (by simp at hk;omega)
 have m0:=(hu5.block _ (heap_lt n0') (by simp;omega)).trans n0';have m1:=(hu5.block _ (heap_lt n1') (by simp)).trans n1';have hml:=(own_tight hown5).lt;have hq:=hk.mem.lt;have c1:=heap_alloc_new (w5.alloc (.cells #[.map (some (w.heap.size+1+1))] 302 (0,0))) (.cells #[.nilFunc] 303 (0,0));have d0:=heap_alloc_new w5 (.cells #[.map (some (w.heap.size+1+1))] 302 (0,0));have d1:=heap_alloc_new (w5.alloc (.cells #[.map (some (w.heap.size+1+1))] 302 (0,0))) (.cells #[.func (Fn.func 234) #[] #[.pointer (some ⟨w5.heap.size,0,none⟩),.pointer (some ⟨w.heap.size,0,none⟩),.pointer (some ⟨w.heap.size+1,0,none⟩),.pointer (some ⟨w5.heap.size+1,0,none⟩)]] 303 (0,0));have hu7:Upd [] w5 ((w5.alloc (.cells #[.map (some (w.heap.size+1+1))] 302 (0,0))).alloc (.cells #[.func (Fn.func 234) #[] #[.pointer (some ⟨w5.heap.size,0,none⟩),.pointer (some ⟨w.heap.size,0,none⟩),.pointer (some ⟨w.heap.size+1,0,none⟩),.pointer (some ⟨w5.heap.size+1,0,none⟩)]] 303 (0,0))):=((Upd.refl [] w5).alloc _).alloc _;rw [World.size_alloc] at c1 d1
 have e:∀ {k:Nat} {o:Obj},w5.heap[k]?=some o->((w5.alloc (.cells #[.map (some (w.heap.size+1+1))] 302 (0,0))).alloc (.cells #[.func (Fn.func 234) #[] #[.pointer (some ⟨w5.heap.size,0,none⟩),.pointer (some ⟨w.heap.size,0,none⟩),.pointer (some ⟨w.heap.size+1,0,none⟩),.pointer (some ⟨w5.heap.size+1,0,none⟩)]] 303 (0,0))).heap[k]?=some o:=fun {k o} hk=>by rw [hu7.block k (heap_lt hk) (by simp)];exact hk
 have hm:FoldM ((w5.alloc (.cells #[.map (some (w.heap.size+1+1))] 302 (0,0))).alloc (.cells #[.func (Fn.func 234) #[] #[.pointer (some ⟨w5.heap.size,0,none⟩),.pointer (some ⟨w.heap.size,0,none⟩),.pointer (some ⟨w.heap.size+1,0,none⟩),.pointer (some ⟨w5.heap.size+1,0,none⟩)]] 303 (0,0))) b w5.heap.size w.heap.size (w.heap.size+1) (w5.heap.size+1) (w.heap.size+1+1) fl caps K T q _ :=
  ⟨hk.upd (hU5.trans hu7) (by simp),(heap_alloc_old _ _ (heap_lt d0)).trans d0,e m0,e m1,d1,own_keep (own_tight hown5) (hu7.block _ hml (by simp)),fun k hk=>by have:=hq k hk;omega,by omega,by omega,by omega,by omega⟩
 have HF:=Lib.hid (foldAt_spec b w5.heap.size w.heap.size (w.heap.size+1) (w5.heap.size+1) (w.heap.size+1+1) fl caps K T q G (fun z=>Upd [] w z) hen hCb (fun w1 w' h1 h2=>h1.then h2 fun k hk=>.inr (by simp at hk;omega)) hG (K.vars+1) 0 (by omega) r _ _ _ hm hK2 (by simp) (by simp) (hU5.trans hu7) ht (Nat.zero_le _));have cc:=cell_at (j:=0) c1 rfl;have ff:=frozen_at 0 c1;have HK:=Lib.hid hk;have q0:((0:Nat):Int)=0:=rfl;have q1:((1:Nat):Int)=1:=rfl;rw [q0] at hrun4;rw [q1] at hrun5;clear q0 q1 hk hen hCb hG g0 g1 ht hb2 n0 n0' n1 n1' hu3 hown4 hturn4 hK1 hown4' hown5 hturn5 hK2 hu5 hU5 m0 m1 hml hq c1 d0 d1 hu7 e hm
 go_enter Tryz.func184,Tryz.ntmps184
 go_wp2_with fail;refine HF.out.mono ?_;rintro e w6 ⟨rfl,hQ⟩;obtain ⟨V,D,_,_,_,_,_,hS⟩:=hQ.ex;have HS:=Lib.hid (And.intro hS (HK.out.upd hS (by simp)));clear hQ hS;go_wp2_with fail;go_ret;exact ⟨rfl,HS.out⟩
end Go.Proofs.YtfkopmhpppeheaaGreat
namespace Go.Proofs.YtfkopmhpppeheaaGreat
section
variable {P:Program} {ops:Array Oper} {Q:Exit->Act->World->Prop} {md:Region.Mode} {S E:World->Prop} {Ks:List Nat}
def noneB (L:Array Bool) (Ks:List Nat):Bool:=Ks.all fun k=>!L.getD k false
theorem noneB_set {L:Array Bool} {i:Nat} (h:i∉Ks):noneB (L.setIfInBounds i true) Ks=noneB L Ks:=by
 unfold noneB
 induction Ks with
 | nil=>rfl
 | cons k t ih =>
  simp only [List.mem_cons,not_or] at h
  simp only [List.all_cons]
  rw [ih h.2,getD_set_ne false h.1]
def wpAnyU (P:Program) (md:Region.Mode) (ops:Array Oper) (Q:Exit->Act->World->Prop) (S E:World->Prop) (Ks:List Nat):Nat->Array Bool->Act->World->Prop
 | 0,L,a,w=>Region.ready md ops L=[]/\Q .normal a w
 | fuel+1,L,a,w =>
  (Region.ready md ops L=[]->Q .normal a w) /\
  ∀ i,i∈Region.ready md ops L->wpOp P ops Q i (fun a' w'=>(S w'/\(noneB (L.setIfInBounds i true) Ks=true->E w'))/\wpAnyU P md ops Q S E Ks fuel (L.setIfInBounds i true) a' w') a w
theorem wpAny_of_until:∀ (fuel:Nat) (L:Array Bool) (a:Act) (w:World),wpAnyU P md ops Q S E Ks fuel L a w->wpAny P md ops Q fuel L a w
 | 0,_,_,_,h=>h
 | fuel+1,_,_,_,h=>⟨h.1,fun i hi=>wpOp_mono (fun a' w' h'=>wpAny_of_until fuel _ a' w' h'.2) (h.2 i hi)⟩
theorem wpAnyU_first {C:World->Prop} {G:Array Bool->Prop} {i:Nat} {oi:Oper} {v:Value} (hi:ops[i]?=some oi) (hsel:∀ (j:Nat) (o:Oper) cs b,ops[j]?=some o->o.op≠.select cs b)
  (hQ:∀ c a w,Q (.panic c) (a.put oi.dst v) w->Q (.panic c) a w) (hik:i∉Ks)
  (hGs:∀ L,i∈Region.ready md ops L->G L->∀ j,j∈Region.ready md ops L->j≠i->G (L.setIfInBounds j true))
  (hCG:∀ L w,G L->S w->(noneB L Ks=true->E w)->C w) :
  ∀ (fuel:Nat) (L:Array Bool) (a:Act) (w:World),
   (∀ j oj,ops[j]?=some oj->j≠i->L.getD j true=false->(∀ e,e∈oj.after->Region.binds md e=true->e.on≠i)->oi.apart ops oj=true) ->
   i∈Region.ready md ops L->YieldsIf P ops C oi v a->S w->(noneB L Ks=true->E w)->G L ->
   wpAnyU P md ops Q S E Ks fuel (L.setIfInBounds i true) (a.put oi.dst v) w->wpAnyU P md ops Q S E Ks (fuel+1) L a w:=by
 intro fuel
 induction fuel with
 | zero =>
  intro L a w _ hr hy hS hE hg H
  refine ⟨fun h=>(by rw [h] at hr;cases hr),fun j hj=>?_⟩
  by_cases hji:j=i
  ·subst hji;exact hy.wpOp hi (hCG L w hg hS hE) ⟨⟨hS,fun hn=>hE (by rw [<- noneB_set hik];exact hn)⟩,H⟩
  ·have:=ready_mono hj hji
   rw [H.1] at this;cases this
 | succ fuel ih =>
  intro L a w hfree hr hy hS hE hg H
  refine ⟨fun h=>(by rw [h] at hr;cases hr),fun j hj=>?_⟩
  by_cases hji:j=i
  ·subst hji;exact hy.wpOp hi (hCG L w hg hS hE) ⟨⟨hS,fun hn=>hE (by rw [<- noneB_set hik];exact hn)⟩,H⟩
  ·have h1:=H.2 j (ready_mono hj hji)
   obtain ⟨hjun,oj,hoj,hall⟩:=mem_ready.1 hj
   have hnot:∀ e,e∈oj.after->Region.binds md e=true->e.on≠i:=fun e he hb heq=>by
    have h1:=hall e he hb;have h0:=(mem_ready.1 hr).1;rw [heq] at h1
    rcases Nat.lt_or_ge i L.size with h' | h'
    ·simp [h'] at h0 h1;rw [h0] at h1;cases h1
    ·simp [Array.getElem?_eq_none h'] at h1
   have h2:=wpOp_putIf hoj (hfree j oj hoj hji hjun hnot) (fun cs b=>hsel i oi cs b hi) (fun cs b=>hsel j oj cs b hoj) hQ hy h1
   have hfree':∀ k ok,ops[k]?=some ok->k≠i->(L.setIfInBounds j true).getD k true=false ->
     (∀ e,e∈ok.after->Region.binds md e=true->e.on≠i)->oi.apart ops ok=true:=fun k ok hk hki hun hno=>by
    refine hfree k ok hk hki ?_ hno
    by_cases hjk:j=k
    ·subst hjk;exact hjun
    ·rw [getD_set_ne true hjk] at hun;exact hun
   refine wpOp_mono (fun a' w' h3=>?_) h2;obtain ⟨hy',⟨hS',hE'⟩,hW⟩:=h3
   have hE2:noneB (L.setIfInBounds j true) Ks=true->E w':=fun hn=>hE' (by rw [Array.setIfInBounds_comm _ _ (Ne.symm hji),noneB_set hik];exact hn)
   refine ⟨⟨hS',hE2⟩,ih (L.setIfInBounds j true) a' w' hfree' (ready_mono hr (Ne.symm hji)) hy' hS' hE2 (hGs L hr hg j hj hji) ?_⟩;rw [Array.setIfInBounds_comm _ _ hji];exact hW
def waitsB (md:Region.Mode) (ops:Array Oper) (Ks:List Nat) (i:Nat):Bool :=
 Ks.all fun k=>(k != i)&&(match ops[k]? with | some o=>o.after.any (fun e=>Region.binds md e&&(e.on == i)) | none=>false)
theorem waitsB_mem {i k:Nat} (h:waitsB md ops Ks i=true) (hk:k∈Ks):k≠i/\∃ o,ops[k]?=some o/\∃ e,e∈o.after/\Region.binds md e=true/\e.on=i:=by
 have h1:=List.all_eq_true.1 h k hk
 simp only [Bool.and_eq_true,bne_iff_ne,ne_eq] at h1
 refine ⟨h1.1,?_⟩;have h2:=h1.2
 cases ho:ops[k]? with
 | none=>rw [ho] at h2;cases h2
 | some o =>
  rw [ho] at h2;obtain ⟨e,he,hb⟩:=Array.any_eq_true'.1 h2
  simp only [Bool.and_eq_true,beq_iff_eq] at hb
  exact ⟨o,rfl,e,he,hb.1,hb.2⟩
theorem wpAnyU_takeS {i:Nat} {oi:Oper} {v:Value} {fuel:Nat} {L:Array Bool} {a:Act} {w:World} (hi:ops[i]?=some oi)
  (hs:Region.noSelect ops=true) (hf:Region.free md ops L i=true) (hr:(Region.ready md ops L).contains i=true) (hik:Ks.contains i=false)
  (hQ:∀ c a w,Q (.panic c) (a.put oi.dst v) w->Q (.panic c) a w) (hy:YieldsIf P ops S oi v a) (hS:S w) (hE:noneB L Ks=true->E w)
  (h:wpAnyU P md ops Q S E Ks fuel (L.setIfInBounds i true) (a.put oi.dst v) w):wpAnyU P md ops Q S E Ks (fuel+1) L a w :=
 wpAnyU_first (C:=S) (G:=fun _=>True) hi (Region.noSelect_spec hs) hQ (fun hm=>by simp [hm] at hik) (fun _ _ _ _ _ _=>trivial) (fun _ _ _ hS _=>hS) fuel L a w (Region.free_spec hi hf) (by simpa using hr) hy hS hE trivial h
theorem wpAnyU_takeE {i:Nat} {oi:Oper} {v:Value} {fuel:Nat} {L:Array Bool} {a:Act} {w:World} (hi:ops[i]?=some oi)
  (hs:Region.noSelect ops=true) (hf:Region.free md ops L i=true) (hr:(Region.ready md ops L).contains i=true) (hik:Ks.contains i=false) (hwt:waitsB md ops Ks i=true) (hn:noneB L Ks=true)
  (hQ:∀ c a w,Q (.panic c) (a.put oi.dst v) w->Q (.panic c) a w) (hy:YieldsIf P ops E oi v a) (hS:S w) (hE:noneB L Ks=true->E w)
  (h:wpAnyU P md ops Q S E Ks fuel (L.setIfInBounds i true) (a.put oi.dst v) w):wpAnyU P md ops Q S E Ks (fuel+1) L a w :=
 wpAnyU_first (C:=E) (G:=fun L=>noneB L Ks=true) hi (Region.noSelect_spec hs) hQ (fun hm=>by simp [hm] at hik) (fun L hri hg j hj hji=>by
  refine (noneB_set fun hjK=>?_).trans hg;obtain ⟨_,o,ho,e,he,hb,heq⟩:=waitsB_mem hwt hjK;obtain ⟨_,o',ho',hall⟩:=mem_ready.1 hj
  rw [ho] at ho';cases ho'
  have h1:=hall e he hb;have h0:=(mem_ready.1 hri).1;rw [heq] at h1
  rcases Nat.lt_or_ge i L.size with h' | h'
  ·simp [h'] at h0 h1;rw [h0] at h1;cases h1
  ·simp [Array.getElem?_eq_none h'] at h1) (fun _ _ hg _ hE=>hE hg) fuel L a w (Region.free_spec hi hf) (by simpa using hr) hy hS hE hn h
def AllReadyU (P:Program) (md:Region.Mode) (ops:Array Oper) (Q:Exit->Act->World->Prop) (S E:World->Prop) (Ks:List Nat) (fuel:Nat) (L:Array Bool) (a:Act) (w:World) (rs:List Nat):Prop :=
 ∀ i,i∈rs->wpOp P ops Q i (fun a' w'=>(S w'/\(noneB (L.setIfInBounds i true) Ks=true->E w'))/\wpAnyU P md ops Q S E Ks fuel (L.setIfInBounds i true) a' w') a w
theorem AllReadyU.nil {fuel:Nat} {L:Array Bool} {a:Act} {w:World}:AllReadyU P md ops Q S E Ks fuel L a w []:=fun _ h=>by cases h
theorem AllReadyU.cons {fuel:Nat} {L:Array Bool} {a:Act} {w:World} {i:Nat} {o:Oper} {rs:List Nat} (ho:ops[i]?=some o)
  (h:∀ K':Act->World->Prop,Shut (∀ a w,(S w/\(noneB (L.setIfInBounds i true) Ks=true->E w))->((S w/\(noneB (L.setIfInBounds i true) Ks=true->E w))->wpAnyU P md ops Q S E Ks fuel (L.setIfInBounds i true) a w)->K' a w)->if Region.wanted o (yielded ops a.tmps)=true then Oper.wp P o a w K' Q else K' (a.put o.dst undef) w)
  (hs:AllReadyU P md ops Q S E Ks fuel L a w rs):AllReadyU P md ops Q S E Ks fuel L a w (i::rs):=fun j hj=>by
 rcases List.mem_cons.1 hj with rfl | hj
 ·exact wpOp_step ho (fun K' hK=>h K' (fun a w hS hW=>hK a w ⟨hS,hW hS⟩))
 ·exact hs j hj
theorem wpAnyU_ready {rs:List Nat} {fuel:Nat} {L:Array Bool} {a:Act} {w:World} (hr:Region.ready md ops L=rs) (hne:rs≠[])
  (h:AllReadyU P md ops Q S E Ks fuel L a w rs):wpAnyU P md ops Q S E Ks (fuel+1) L a w:=⟨fun h0=>absurd (hr ▸ h0) hne,hr ▸ h⟩
theorem wpAnyU_done {L:Array Bool} {a:Act} {w:World} (hr:Region.ready md ops L=[]) (h:Q .normal a w) :
  ∀ fuel,wpAnyU P md ops Q S E Ks fuel L a w
 | 0=>⟨hr,h⟩
 | _+1=>⟨fun _=>h,by rw [hr];simp⟩
theorem wp_region_until {id:Nat} {a:Act} {w:World} (S E:World->Prop) (Ks:List Nat) (hm:P.follows .mixedOrders=true)
  (h:wpAnyU P .any ops Q S E Ks ops.size (Array.replicate ops.size false) a w.drew):(Code.region id ops true).wp P Q a w :=
 wp_region_any hm (wpAny_of_until _ _ _ _ h)
end
theorem noE {b:Bool} {p:Prop} (hb:b=false) (h:b=true):p:=by rw [hb] at h;cases h
end Go.Proofs.YtfkopmhpppeheaaGreat
namespace Go.Proofs.YtfkopmhpppeheaaGreat
open Go.RowKit Go.Maps Go.ChangeMaps Go.WideShapes
def U64 (x:Int):Prop:=0<=x/\x<18446744073709551616
theorem wrap_u64 (n:Int):U64 (IntKind.u64.wrap n):=by
 have e:IntKind.u64.wrap n=n % 18446744073709551616:=rfl
 rw [e];unfold U64;omega
theorem bits_u64 (op:BinOp) (x y:Int):U64 (bits op IntKind.u64 x y):=wrap_u64 _
def nb (x:Int) (i:Nat):Bool:=x.toNat.testBit i
theorem toNat_bv {x:Int} (h:U64 x):(BitVec.ofInt 64 x).toNat=x.toNat:=by
 unfold U64 at h;rw [BitVec.toNat_ofInt]
 have:x % (2 ^ 64:Nat)=x:=by omega
 rw [this]
theorem nb_bv {x:Int} (h:U64 x) (i:Nat):nb x i=(BitVec.ofInt 64 x).getLsbD i:=by
 unfold nb;rw [<- toNat_bv h,BitVec.testBit_toNat]
theorem nb_of_bv (B:BitVec 64) (i:Nat):nb ((B.toNat:Int) % 18446744073709551616) i=B.getLsbD i:=by
 have h:=B.isLt
 have:((B.toNat:Int) % 18446744073709551616).toNat=B.toNat:=by omega
 unfold nb;rw [this,BitVec.testBit_toNat]
theorem nb_or {x y:Int} (hx:U64 x) (hy:U64 y) (i:Nat):nb (bits BinOp.or IntKind.u64 x y) i=(nb x i||nb y i):=by
 rw [nb_bv hx,nb_bv hy,<- BitVec.getLsbD_or];exact nb_of_bv (BitVec.ofInt 64 x ||| BitVec.ofInt 64 y) i
theorem nb_and {x y:Int} (hx:U64 x) (hy:U64 y) (i:Nat):nb (bits BinOp.and IntKind.u64 x y) i=(nb x i&&nb y i):=by
 rw [nb_bv hx,nb_bv hy,<- BitVec.getLsbD_and];exact nb_of_bv (BitVec.ofInt 64 x &&& BitVec.ofInt 64 y) i
theorem nb_andNot {x y:Int} (hx:U64 x) (hy:U64 y) {i:Nat} (hi:i<64):nb (bits BinOp.andNot IntKind.u64 x y) i=(nb x i&&!nb y i):=by
 rw [nb_bv hx,nb_bv hy];have e:nb (bits BinOp.andNot IntKind.u64 x y) i=(BitVec.ofInt 64 x &&& ~~~BitVec.ofInt 64 y).getLsbD i:=nb_of_bv _ i;rw [e,BitVec.getLsbD_and,BitVec.getLsbD_not,decide_eq_true hi,Bool.true_and]
theorem nb_pow {n:Nat} (hn:n<64) (i:Nat):nb (IntKind.u64.wrap (2 ^ n)) i=decide (n=i):=by
 have e:IntKind.u64.wrap ((2:Int) ^ n)=(2:Int) ^ n % 18446744073709551616:=rfl;have h1:(2:Nat) ^ n<2 ^ 64:=Nat.pow_lt_pow_right (by omega) hn
 have h2:((2:Int) ^ n)=((2 ^ n:Nat):Int):=by push_cast;rfl
 have h3:((2:Int) ^ n % 18446744073709551616).toNat=2 ^ n:=by rw [h2];generalize (2:Nat) ^ n=m at h1 ⊢;omega
 rw [e];unfold nb;rw [h3,Nat.testBit_two_pow]
theorem nb_zero (i:Nat):nb 0 i=false:=by simp [nb]
theorem nb_ext {x y:Int} (hx:U64 x) (hy:U64 y) (h:∀ i,i<64->nb x i=nb y i):x=y:=by
 have:x.toNat=y.toNat:=by
  apply Nat.eq_of_testBit_eq
  intro i
  by_cases hi:i<64
  ·exact h i hi
  ·have l:∀ z:Int,U64 z->z.toNat.testBit i=false:=fun z hz=>by
    apply Nat.testBit_lt_two_pow
    have h1:(2:Nat) ^ 64<=2 ^ i:=Nat.pow_le_pow_right (by omega) (by omega)
    unfold U64 at hz;omega
   rw [l x hx,l y hy]
 unfold U64 at hx hy;omega
theorem bitT_nb {x:Int} (hx:U64 x) (v:Nat):bitT x v=nb x v:=by
 obtain ⟨n,rfl⟩ : ∃ n:Nat,x=(n:Int):=⟨x.toNat,by unfold U64 at hx;omega⟩
 have hn:n<18446744073709551616:=by unfold U64 at hx;omega
 have e:((n:Int)/2 ^ v)=((n/2 ^ v:Nat):Int):=by push_cast;rfl
 have hu:U64 ((n:Int)/2 ^ v):=by
  rw [e];have:=Nat.div_le_self n (2 ^ v);generalize n/2 ^ v=m at this ⊢;unfold U64;omega
 have h1:U64 1:=by unfold U64;omega
 have hbit:nb ((n:Int)/2 ^ v) 0=nb (n:Int) v:=by
  rw [e];unfold nb
  simp only [Int.toNat_natCast]
  rw [Nat.testBit_div_two_pow,Nat.zero_add]
 have h2:∀ i,nb (bits BinOp.and IntKind.u64 ((n:Int)/2 ^ v) 1) i=(nb ((n:Int)/2 ^ v) i&&decide (i=0)):=fun i=>by
  rw [nb_and hu h1]
  congr 1
  have:nb 1 i=decide (0=i):=nb_pow (n:=0) (by omega) i
  rw [this];by_cases h:i=0 <;> simp [h];omega
 have hW:=bits_u64 BinOp.and ((n:Int)/2 ^ v) 1;unfold bitT
 cases hb:nb (n:Int) v with
 | true =>
  have:bits BinOp.and IntKind.u64 ((n:Int)/2 ^ v) 1=1:=nb_ext hW h1 fun i _=>by
   have e1:nb 1 i=decide (0=i):=nb_pow (n:=0) (by omega) i;rw [h2,e1]
   by_cases h:i=0
   ·subst h;rw [hbit,hb];rfl
   ·simp [h];omega
  rw [this];rfl
 | false =>
  have:bits BinOp.and IntKind.u64 ((n:Int)/2 ^ v) 1=0:=nb_ext hW (by unfold U64;omega) fun i _=>by
   rw [h2,nb_zero]
   by_cases h:i=0
   ·subst h;rw [hbit,hb];rfl
   ·simp [h]
  rw [this];rfl
theorem WalkL.one {K:KV} {r:Nat} {N:List Nat} (h:WalkL K [] [r] N):WalkN K [] r N:=by
 cases h with
 | cons h t=>cases t;simpa using h
theorem KV.Under.node {K:KV} {P:List Nat} (hw:K.Wf P) {r x:Nat} (ht:K.A.tk r=true) (h:K.Under r x):2<=x/\K.A.tk x=true:=by
 induction h with
 | refl h=>exact ⟨h,ht⟩
 | lo _ hp h2 ih =>
  obtain ⟨p',hp',hpt'⟩:=ArenaV.tk_iff.1 ih.2
  rw [hp] at hp';cases hp'
  exact ⟨h2,(hw.cl _ _ ih.1 hp hpt').1⟩
 | hi _ hp h2 ih =>
  obtain ⟨p',hp',hpt'⟩:=ArenaV.tk_iff.1 ih.2
  rw [hp] at hp';cases hp'
  exact ⟨h2,(hw.cl _ _ ih.1 hp hpt').2⟩
theorem WalkN.mem {K:KV} {r x:Nat} {N:List Nat} (h:WalkN K [] r N):x∈N↔K.Under r x:=by
 refine ⟨h.under x,fun hu=>?_⟩
 induction hu with
 | refl h2=>simpa using h.has h2
 | lo _ hp h2 ih =>
  rcases (h.kids _ _ ih hp).1 with h3 | h3
  ·omega
  ·simpa using h3
 | hi _ hp h2 ih =>
  rcases (h.kids _ _ ih hp).2 with h3 | h3
  ·omega
  ·simpa using h3
theorem KV.Ok.kid_den {K:KV} (hk:K.Ok) {x:Nat} {p:PlaceV} (h2:2<=x) (hp:K.A.list[x]?=some p) (hpt:p.taken=true) (b:Bool) (y:Nat->Bool):K.den (if b then p.hi else p.lo) y=K.den x (upd y p.var.toNat b):=by
 cases b with
 | true=>exact (KV.den_hi hk.wf hk.ord h2 hp hpt y).symm
 | false=>exact (KV.den_lo hk.wf hk.ord h2 hp hpt y).symm
theorem KV.Ok.mix_kid {K:KV} (hk:K.Ok) {r x:Nat} {p:PlaceV} (h2:2<=x) (hp:K.A.list[x]?=some p) (hpt:p.taken=true) (b:Bool) {a:Nat->Bool} (ha:∀ y,K.den x y=K.den r (K.mix (K.dep x) a y)) :
  ∃ a',∀ y,K.den (if b then p.hi else p.lo) y=K.den r (K.mix (K.dep (if b then p.hi else p.lo)) a' y):=by
 have hvr:=hk.wf.vr x p h2 hp hpt;have hb:=hk.ord.below hk.wf h2 hp hpt;have hcl:=hk.wf.cl x p h2 hp hpt
 have hdx:K.dep x=K.lev p.var.toNat:=by simp [KV.dep,hp,hvr.1]
 have hvl:p.var.toNat<K.vars:=by omega
 generalize hc:(if b then p.hi else p.lo)=c
 have htc:K.A.tk c=true:=by
  subst hc;cases b
  ·exact hcl.1
  ·exact hcl.2
 have hdc:K.dep x<K.dep c:=by
  subst hc;cases b
  ·exact hb.1
  ·exact hb.2
 refine ⟨upd a p.var.toNat b,fun y=>?_⟩
 have e1:K.den c y=K.den c (K.mix (K.dep c) (upd a p.var.toNat b) y):=KV.den_same hk.wf hk.ord _ c _ _ htc (Nat.le_refl _) fun u hu hd=>by
  simp only [KV.mix];rw [if_neg (by omega)]
 rw [e1,<- hc,hk.kid_den h2 hp hpt,ha,hc]
 congr 1
 funext u
 simp only [KV.mix,upd]
 by_cases hu:u<K.vars
 ·by_cases h3:u=p.var.toNat
  ·subst h3
   simp only [hu,true_and,if_true]
   rw [if_neg (by omega),if_pos (by omega)]
  ·simp only [hu,true_and,h3,if_false]
   by_cases h4:K.lev u<K.dep x
   ·rw [if_pos h4,if_pos (by omega)]
   ·rw [if_neg h4]
 ·have h3:u≠p.var.toNat:=by omega
  simp [hu,h3]
theorem KV.Ok.mix_under {K:KV} (hk:K.Ok) {r x:Nat} (ht:K.A.tk r=true) (h:K.Under r x):∃ a,∀ y,K.den x y=K.den r (K.mix (K.dep x) a y):=by
 induction h with
 | refl h=>exact ⟨fun _=>false,fun y=>KV.den_same hk.wf hk.ord _ r _ _ ht (Nat.le_refl _) fun u hu hd=>by
   simp only [KV.mix];rw [if_neg (by omega)]⟩
 | lo h hp h2 ih =>
  obtain ⟨a,ha⟩:=ih;have hn:=h.node hk.wf ht;obtain ⟨p',hp',hpt'⟩:=ArenaV.tk_iff.1 hn.2
  rw [hp] at hp';cases hp'
  exact hk.mix_kid hn.1 hp hpt' false ha
 | hi h hp h2 ih =>
  obtain ⟨a,ha⟩:=ih;have hn:=h.node hk.wf ht;obtain ⟨p',hp',hpt'⟩:=ArenaV.tk_iff.1 hn.2
  rw [hp] at hp';cases hp'
  exact hk.mix_kid hn.1 hp hpt' true ha
def Hangs (t:(Nat->Bool)->Bool) (v:Nat):Prop:=∃ y,t (upd y v true)≠t (upd y v false)
theorem KV.Ok.hangs_of {K:KV} (hk:K.Ok) (hu:K.Uni) {r x:Nat} {p:PlaceV} (ht:K.A.tk r=true) (h:K.Under r x) (hp:K.A.list[x]?=some p):Hangs (K.den r) p.var.toNat:=by
 have hn:=h.node hk.wf ht;obtain ⟨p',hp',hpt⟩:=ArenaV.tk_iff.1 hn.2
 rw [hp] at hp';cases hp'
 have hvr:=hk.wf.vr x p hn.1 hp hpt;have hcl:=hk.wf.cl x p hn.1 hp hpt
 have hdx:K.dep x=K.lev p.var.toNat:=by simp [KV.dep,hp,hvr.1]
 obtain ⟨a,ha⟩:=hk.mix_under ht h
 have hne:∃ y,K.den p.hi y≠K.den p.lo y:=by
  by_cases hh:∃ y,K.den p.hi y≠K.den p.lo y
  ·exact hh
  ·exfalso
   refine hk.ord.ne x p hn.1 hp hpt (KV.canon hk.wf hk.ord hu _ _ _ hcl.1 hcl.2 (Nat.le_refl _) fun y=>?_)
   by_cases h:K.den p.lo y=K.den p.hi y
   ·exact h
   ·exact absurd ⟨y,fun e=>h e.symm⟩ hh
 obtain ⟨y,hy⟩:=hne;refine ⟨K.mix (K.dep x) a y,?_⟩
 have e:∀ b,upd (K.mix (K.dep x) a y) p.var.toNat b=K.mix (K.dep x) a (upd y p.var.toNat b):=fun b=>by
  funext u
  simp only [KV.mix,upd]
  by_cases h3:u=p.var.toNat
  ·subst h3;rw [if_pos rfl,if_neg (by omega),if_pos rfl]
  ·simp [h3]
 rw [e,e,<- ha,<- ha];have e1:=hk.kid_den hn.1 hp hpt true y;have e2:=hk.kid_den hn.1 hp hpt false y
 simp only [if_true] at e1
 simp only [Bool.false_eq_true,if_false] at e2
 rw [<- e1,<- e2];exact hy
theorem KV.Ok.hangs_not {K:KV} (hk:K.Ok) {v:Nat}:∀ (n r:Nat),K.vars-K.dep r<=n->K.A.tk r=true->(∀ x p,K.Under r x->K.A.list[x]?=some p->p.var.toNat≠v)->∀ y b,K.den r (upd y v b)=K.den r y
 | n,r,hn,ht,hx,y,b=>by
  by_cases h2:2<=r
  ·obtain ⟨p,u,hp,hpt,hpv,hu,h3,h4,hd⟩:=hk.wf.node_at h2 ht
   have hb:=hk.ord.below hk.wf h2 hp hpt;have hlt:=hk.wf.dep_lt hk.ord h2 ht;have hv:=hx r p (.refl h2) hp
   match n with
   | 0=>omega
   | n+1 =>
    have ih:∀ c,K.A.tk c=true->K.dep r<K.dep c->(2<=c->K.Under r c)->K.den c (upd y v b)=K.den c y:=fun c hc hd hu=>by
     by_cases hc2:2<=c
     ·exact KV.Ok.hangs_not hk n c (by omega) hc (fun x q hx' hq=>hx x q ((hu hc2).trans hx') hq) y b
     ·rw [K.den_const (by omega),K.den_const (by omega)]
    rw [KV.den_node hk.wf hk.ord h2 hp hpt,KV.den_node hk.wf hk.ord h2 hp hpt,upd_ne _ _ hv,ih p.hi h4 hb.2 (fun h=>.hi (.refl h2) hp h),ih p.lo h3 hb.1 (fun h=>.lo (.refl h2) hp h)]
  ·rw [K.den_const (by omega),K.den_const (by omega)]
theorem KV.Wf.vof_lt {K:KV} {P:List Nat} (h:K.Wf P) {x:Nat} (h2:2<=x) (ht:K.A.tk x=true):K.vof x<K.vars:=by
 obtain ⟨p,v,hp,_,hv,hl,_⟩:=h.node_at h2 ht
 simp [KV.vof,hp];omega
theorem sup_fold' (K:KV) (N:List Nat) (hv:∀ x,x∈N->K.vof x<64) (s:Int) (hs:U64 s):U64 (N.foldl (fun s x=>supStep s (K.vof x)) s)/\∀ i,nb (N.foldl (fun s x=>supStep s (K.vof x)) s) i=(nb s i||decide (∃ x,x∈N/\K.vof x=i)):=by
 induction N generalizing s with
 | nil=>exact ⟨hs,fun i=>by simp⟩
 | cons a N ih =>
  obtain ⟨h1,h2⟩:=ih (fun x hx=>hv x (by simp [hx])) (supStep s (K.vof a)) (bits_u64 _ _ _);refine ⟨h1,fun i=>?_⟩;rw [List.foldl_cons,h2];unfold supStep;rw [nb_or hs (wrap_u64 _),nb_pow (hv a (by simp)),Bool.or_assoc]
  congr 1
  rw [Bool.eq_iff_iff];simp
theorem SupIs.bits {K:KV} {r:Nat} {s:Int} (hk:K.Ok) (hu:K.Uni) (ht:K.A.tk r=true) (h:SupIs K r s):U64 s/\∀ v,nb s v=true↔Hangs (K.den r) v:=by
 obtain ⟨N,hN,rfl⟩:=h;have hN:=hN.one
 have hv:∀ x,x∈N->K.vof x<64:=fun x hx=>by
  have:=hN.two x hx;have:=hk.wf.vof_lt this.1 this.2;have:=hk.wf.vs;omega
 obtain ⟨h1,h2⟩:=sup_fold' K N hv 0 (by unfold U64;omega);refine ⟨h1,fun v=>?_⟩;rw [h2,nb_zero,Bool.false_or,decide_eq_true_eq];constructor
 ·rintro ⟨x,hx,rfl⟩
  have ht':=hN.two x hx;obtain ⟨p,hp,hpt⟩:=ArenaV.tk_iff.1 ht'.2;have:=hk.hangs_of hu ht (hN.under x hx) hp
  simpa [KV.vof,hp] using this
 ·intro hh
  by_cases he:∃ x,x∈N/\K.vof x=v
  ·exact he
  ·exfalso
   obtain ⟨y,hy⟩:=hh;have key:=hk.hangs_not (v:=v) _ r (Nat.le_refl _) ht (fun x p hx hp hv=>he ⟨x,hN.mem.2 hx,by simp [KV.vof,hp,hv]⟩);exact hy (by rw [key,key])
end Go.Proofs.YtfkopmhpppeheaaGreat
