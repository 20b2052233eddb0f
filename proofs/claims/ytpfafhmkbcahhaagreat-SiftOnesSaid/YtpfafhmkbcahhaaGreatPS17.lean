import Derived.Test.YtpfafhmkbcahhaaGreatPS16
namespace Go.Proofs.YtpfafhmkbcahhaaGreat
open Go.RowKit Go.Maps Go.ChangeMaps Go.WideShapes
theorem Tryz.infoRefF:(Tryz.prog.info? 54).map (fun i=>(i.zero,i.size,i.bytes))=some (some (.int .u32 0),1,4):=by kernel_rfl
def KV.vr (K:KV) (r:Nat):Int:=match K.A.list[r]? with | some p=>p.var | none=>-1
theorem KV.vr_at {K:KV} {r:Nat} {p:PlaceV} (h:K.A.list[r]?=some p):K.vr r=p.var:=by simp [KV.vr,h]
theorem KV.Wf.const_var {K:KV} {P:List Nat} (h:K.Wf P) {r:Nat} {p:PlaceV} (h2:r < 2) (hp:K.A.list[r]?=some p):p.var=-1:=by
  match r,h2 with
  | 0,_=>rw [h.ok.c0] at hp; cases hp; rfl
  | 1,_=>rw [h.ok.c1] at hp; cases hp; rfl
def KV.FreeN (K:KV) (u x:Int) (p:PlaceV):Prop:=¬ (p.var=u∧(K.vr p.lo=x∨K.vr p.hi=x))
def KV.FreeUV (K:KV) (u x:Int):Prop:=∀ (r:Nat) (p:PlaceV),2≤r→K.A.list[r]?=some p→p.taken=true→K.FreeN u x p
structure FreeI (K:KV) (u x:Int) (Td:List Nat) (i:Nat) (V:List Nat):Prop where
  il:i≤Td.length
  tk:∀ r,r∈Td→K.A.tk r=true
  rt:∀ r,r∈K.roots→r∈Td
  vt:∀ r,r∈V↔r∈Td.take i
  nd:V.Nodup
  ln:Td.length≤K.roots.length + 2 * V.length
  kid:∀ (r:Nat) (p:PlaceV),r∈V→2≤r→K.A.list[r]?=some p→p.lo∈Td∧p.hi∈Td
  ok:∀ (r:Nat) (p:PlaceV),r∈V→2≤r→K.A.list[r]?=some p→K.FreeN u x p
theorem FreeI.start {K:KV} {u x:Int} (h:∀ r,r∈K.roots→K.A.tk r=true):FreeI K u x K.roots 0 [] :=
  ⟨by omega,h,fun r h=>h,fun r=>by simp,by simp,by simp,fun r p h=>by simp at h,fun r p h=>by simp at h⟩
theorem FreeI.vlen {K:KV} {u x:Int} {Td V:List Nat} {i:Nat} (h:FreeI K u x Td i V) (hw:K.Wf []):V.length≤1048576:=by
  have h1:=K.used_ge hw h.nd fun r hr=>h.tk r (List.mem_of_mem_take ((h.vt r).1 hr))
  have h2:=hw.ok.us;have h3:=hw.ok.lp;have h4:=hw.ok.pm;omega
theorem FreeI.skip {K:KV} {u x:Int} {Td V:List Nat} {i r:Nat} (h:FreeI K u x Td i V) (hr:Td[i]?=some r) (hin:r∈V):FreeI K u x Td (i + 1) V:=by
  have hi:i < Td.length:=by
    by_cases h:i < Td.length
    · exact h
    · rw [List.getElem?_eq_none (by omega)] at hr; cases hr
  refine ⟨hi,h.tk,h.rt,fun s=>?_,h.nd,h.ln,h.kid,h.ok⟩;rw [List.take_add_one,hr,h.vt]
  simp only [Option.toList_some,List.mem_append,List.mem_singleton]
  refine ⟨.inl,?_⟩;rintro (h1 | rfl)
  · exact h1
  · exact (h.vt s).1 hin
theorem FreeI.const {K:KV} {u x:Int} {Td V:List Nat} {i r:Nat} (h:FreeI K u x Td i V) (hr:Td[i]?=some r) (hin:r∉V) (h2:r < 2):FreeI K u x Td (i + 1) (V ++ [r]):=by
  have hi:i < Td.length:=by
    by_cases h:i < Td.length
    · exact h
    · rw [List.getElem?_eq_none (by omega)] at hr; cases hr
  refine ⟨hi,h.tk,h.rt,fun s=>?_,?_,by have:=h.ln; simp; omega,fun s p hs hs2=>?_,fun s p hs hs2=>?_⟩
  · rw [List.take_add_one,hr,List.mem_append,h.vt]
    simp
  · rw [List.nodup_append]
    refine ⟨h.nd,by simp,fun a ha c hc=>?_⟩
    simp at hc; subst hc
    rintro rfl; exact hin ha
  · simp at hs; rcases hs with hs | rfl
    · exact h.kid s p hs hs2
    · omega
  · simp at hs; rcases hs with hs | rfl
    · exact h.ok s p hs hs2
    · omega
theorem FreeI.node {K:KV} {u x:Int} {Td V:List Nat} {i r:Nat} {p:PlaceV} (h:FreeI K u x Td i V) (hr:Td[i]?=some r) (hin:r∉V) (hp:K.A.list[r]?=some p) (t0:K.A.tk p.lo=true) (t1:K.A.tk p.hi=true) (hF:K.FreeN u x p) :
    FreeI K u x (Td ++ [p.lo,p.hi]) (i + 1) (V ++ [r]):=by
  have hi:i < Td.length:=by
    by_cases h:i < Td.length
    · exact h
    · rw [List.getElem?_eq_none (by omega)] at hr; cases hr
  refine ⟨by simp; omega,fun s hs=>?_,fun s hs=>by simp [h.rt s hs],fun s=>?_,?_,by have:=h.ln; simp; omega,fun s c hs hs2 hc=>?_,fun s c hs hs2 hc=>?_⟩
  · simp at hs; rcases hs with hs | rfl | rfl
    · exact h.tk s hs
    · exact t0
    · exact t1
  · rw [List.take_append_of_le_length (by omega),List.take_add_one,hr,List.mem_append,h.vt]
    simp
  · rw [List.nodup_append]
    refine ⟨h.nd,by simp,fun a ha c hc=>?_⟩
    simp at hc; subst hc
    rintro rfl; exact hin ha
  · simp at hs; rcases hs with hs | rfl
    · have:=h.kid s c hs hs2 hc
      exact ⟨by simp [this.1],by simp [this.2]⟩
    · rw [hp] at hc; cases hc
      exact ⟨by simp,by simp⟩
  · simp at hs; rcases hs with hs | rfl
    · exact h.ok s c hs hs2 hc
    · rw [hp] at hc; cases hc
      exact hF
theorem FreeI.done {K:KV} {u x:Int} {Td V:List Nat} (hk:K.Ok) (h:FreeI K u x Td Td.length V):K.FreeUV u x:=by
  have hv:∀ r,K.Reach r→r∈V:=by
    intro r hr
    induction hr with
    | root hh=>exact (h.vt _).2 (by rw [List.take_length]; exact h.rt _ (KV.mem_roots.2 hh))
    | lo _ h2 hp _ ih=>exact (h.vt _).2 (by rw [List.take_length]; exact (h.kid _ _ ih h2 hp).1)
    | hi _ h2 hp _ ih=>exact (h.vt _).2 (by rw [List.take_length]; exact (h.kid _ _ ih h2 hp).2)
  intro r p h2 hp hpt
  exact h.ok r p (hv r (KV.live_reach hk.wf hk.pos hk.ord _ r h2 (ArenaV.tk_iff.2 ⟨p,hp,hpt⟩) (Nat.le_refl _))) h2 hp
structure SeenF (V:List Nat) (D:DM):Prop where
  im:IsMap D
  has:∀ r:Nat,r≤4294967295→(Maps.has D (.int .u32 r)=true↔r∈V)
  dom:∀ k,Maps.has D k=true→∃ r:Nat,k=.int .u32 r∧r < 1048576
theorem SeenF.nil:SeenF [] (.map []):=⟨isMap_empty,fun r _=>by simp [Maps.has],fun k h=>by simp [Maps.has] at h⟩
theorem SeenF.put {V:List Nat} {D:DM} {r:Nat} (h:SeenF V D) (hr:r < 1048576) (d:DM):SeenF (V ++ [r]) (D.put (.int .u32 r) d):=by
  have hl:WideAt.IsKeyLit (.int .u32 (r:Int)):=trivial
  have inj:∀ x:Nat,x≠r→(Lit.int .u32 (x:Int))≠.int .u32 (r:Int):=fun x hx e=>hx (by simp at e; omega)
  refine ⟨h.im.put _ _,fun x hx=>?_,fun k hk=>?_⟩
  · by_cases e:x=r
    · subst e; simp [has_put_same h.im hl]
    · rw [has_put_other (inj x e),h.has x hx]; simp [e]
  · by_cases e:k=.int .u32 (r:Int)
    · exact ⟨r,e,hr⟩
    · rw [has_put_other e] at hk; exact h.dom k hk
theorem seenF_size {V:List Nat} {D:DM} (h:SeenF V D) (hc:Maps.Canon D) (ht:Tidy D):Maps.size D < maxLen:=by
  have:=size_le_keys hc (ks:=(List.range 1048576).map fun (r:Nat)=>Lit.int .u32 (r:Int)) (fun k hk=>by
    obtain ⟨r,rfl,hr⟩:=h.dom k hk
    exact List.mem_map.2 ⟨r,List.mem_range.2 hr,rfl⟩) ht
  simp only [List.length_map,List.length_range] at this
  unfold maxLen; omega
structure FreeQ (K:KV) (u x:Int) (w:World) (e:Ending) (w':World):Prop where
  ex:∃ B:Bool,e=.returned (.tuple #[.bool B,.int .i64 0])∧(B=true↔K.FreeUV u x)∧Upd [] w w'
structure FreeM (b base mb:Nat) (K:KV) (T:List DM) (q:KPtr) (w:World) (s:Value) (Td V:List Nat) (wr:World):Prop where
  row:wr.ownsRow base 54 1 s Td.length (flatRefs Td)
  map:∃ D:DM,SeenF V D∧wr.ownsMap Tryz.prog 54 (plainElem Tryz.prog 3) mb (Maps.size D) D
  up:Upd [] w wr
  ker:KerIn wr b K T q
  bm:mb < base
  bw:w.heap.size≤mb
theorem FreeM.keep {b base mb:Nat} {K:KV} {T:List DM} {q:KPtr} {w:World} {s:Value} {Td V:List Nat} {wr w2:World} (h:FreeM b base mb K T q w s Td V wr) (u:Upd [] wr w2):FreeM b base mb K T q w s Td V w2:=by
  obtain ⟨D,hS,hm⟩:=h.map;exact ⟨row_keep h.row fun k hk=>u.block k (h.row.lt k hk).2 (by simp),⟨D,hS,own_keep hm (u.block _ hm.lt (by simp))⟩,h.up.trans u,h.ker.upd u (by simp),h.bm,h.bw⟩
set_option maxRecDepth 100000 in
set_option maxHeartbeats 3200000 in
theorem free_spec (b l:Nat) (K:KV) (T:List DM) (q:KPtr) (w:World) (h:KerIn w b K T q) (hl:l + 2≤K.vars) (u x:Nat) (hu:K.order.getD l 0=u) (hx:K.order.getD (l + 1) 0=x) :
    Calls Tryz.prog 59 #[.pointer (some ⟨b,0,none⟩),.int .i64 l] w fun e w'=>FreeQ K u x w e w':=by
  obtain ⟨ti,hi0,hz0,hz1',hz2⟩:=info_parts Tryz.infoRefF;have HI:=Lib.hid (And.intro hi0 (And.intro hz0 (And.intro hz1' hz2)));have HK:=Lib.hid h;have hol:=h.ok.ord.pm.ol;have hvs:=h.ok.wf.vs;clear h hi0 hz0 hz1' hz2
  go_enter Tryz.func59,Tryz.ntmps59
  go_wp2_with fail;refine (order_spec b K T q w HK.out.mem (by omega) (by omega)).mono ?_;rintro e w1 ⟨go,gc,rfl,hor,hu1⟩;rw [hol]
  have hd1:decide ((l:Int) < 0)=false:=by simp
  have hd2:¬ ((l:Int) < 0):=by omega
  have hd3:¬ ((K.vars:Int) - 2 < (l:Int)):=by omega
  have hd4:IntKind.i64.wrap ((K.vars:Int) - 2)=(K.vars:Int) - 2:=IntWalk.i64_in _ (by omega);have hd5:IntKind.i64.wrap ((l:Int) + 1)=(l:Int) + 1:=IntWalk.i64_in _ (by omega)
  have hd6:(l:Int) < (K.vars:Int):=by omega
  have hd7:(l:Int) + 1 < (K.vars:Int):=by omega
  have hd8:0≤(l:Int) + 1:=by omega
  have co0:=row_cell hor (j:=l) (u:=.int .i64 u) (by simp [flatN,← hu,List.getElem?_eq_getElem (show l < K.order.length by omega)]);have co1:=row_cell hor (j:=l + 1) (u:=.int .i64 x) (by simp [flatN,← hx,List.getElem?_eq_getElem (show l + 1 < K.order.length by omega)]);have HU1:=Lib.hid hu1;clear hor hu1;go_wp2_with fail
  go_region
  have hmm:=@run_makeMap Tryz.prog;have HUM:=Lib.hid ((HU1.out.drew).alloc (.map #[] 0));have HMP:=own_emptyR (heap_alloc_new w1.drew (.map #[] 0));have hms:=HU1.out.size;go_wp2_with fail;refine (roots_spec b K T q _ (HK.out.upd HUM.out (by simp))).mono ?_;rintro e w3 ⟨lv,rfl,hr3,hu3⟩;obtain ⟨fa,fc,rfl,_⟩:=row_nil_len hr3;obtain ⟨mb,hmb⟩ : ∃ mb,w1.heap.size=mb:=⟨_,rfl⟩
  have hbase:(w1.drew.alloc (.map #[] 0)).heap.size=mb + 1:=by rw [World.size_alloc,← hmb]; rfl
  rw [hbase] at hr3;have hmd:w1.drew.heap.size=mb:=hmb;rw [hmd] at HMP
  have HM3:Hid (FreeM b (mb + 1) mb K T q w (.slice fa K.roots.length fc) K.roots [] w3) :=
    ⟨hr3,⟨_,SeenF.nil,own_keep HMP (hu3.block _ HMP.lt (by simp))⟩,HUM.out.trans hu3,HK.out.upd (HUM.out.trans hu3) (by simp),by omega,by omega⟩
  have HF3:Hid (FreeI K u x K.roots 0 []):=FreeI.start fun r hr=>(HK.out.ok.wf.ht r (KV.mem_roots.1 hr)).2
  have hrl:K.roots.length≤1048576:=by
    have h1:=HK.out.ok.wf.len;have h2:=HK.out.ok.wf.ul;have h3:=HK.out.ok.wf.ok.lp;have h4:=HK.out.ok.wf.ok.pm;have h5:=K.rootsI_len K.holds.length
    show (K.rootsI _).length≤_
    omega
  clear hr3 hu3 HMP HUM hms co0 co1 hd1 hd2 hd3 hd4 hd5 hd6 hd7 hd8 HU1 hbase;rw [hmb];clear hmd hmb;go_wp2_with fail
  go_loopg [10,11] (3 * 1048576 + K.roots.length) (fun gg s10 s11 wr=>∃ (Td V:List Nat) (i:Nat),3 * (1048576 - V.length) + (Td.length - i)=gg∧s11=.int .i64 i∧FreeI K u x Td i V∧FreeM b (mb + 1) mb K T q w s10 Td V wr)
  case atStart=>exact ⟨K.roots,[],0,by simp,rfl,HF3.out,HM3.out⟩
  case round =>
    obtain ⟨Td,V,i,rfl,rfl,hF,hM⟩:=hrel;have hvl:=hF.vlen HK.out.ok.wf;have htl:=hF.ln;obtain ⟨fa,fc,hv,_⟩:=row_nil_len hM.row;subst hv
    by_cases hlt:i < Td.length
    · have hil:(i:Int) < (Td.length:Int):=by omega
      obtain ⟨r,hr⟩ : ∃ r,Td[i]?=some r:=⟨_,List.getElem?_eq_getElem hlt⟩;have htk:=hF.tk r (List.mem_of_getElem? hr);have hrl:=HK.out.ok.ref_lt htk
      have hr32:r≤4294967295:=by omega
      obtain ⟨gr,rfl⟩:=row_some hM.row (by omega);have cr:=row_cell hM.row (j:=i) (u:=.int .u32 r) (by simp [flatRefs,hr]);obtain ⟨D,hS,hmap⟩:=hM.map;obtain ⟨v,ps,hrun,hvv⟩:=hmap.look_ok refKeyed Tryz.underlying212 (zeroInt wr) (plainElem_int Tryz.underlying3 (by decide)) (keyOf_int_mk Tryz.underlying54 (wfR hr32))
      by_cases hin:r∈V
      · rw [(hS.has r hr32).2 hin] at hrun
        have HE:=Lib.hid (And.intro (hF.skip hr hin) hM);clear hF hM hS hmap hvv hr htk hin;go_wp2_with fail
        go_roundg (3 * (1048576 - V.length) + (Td.length - (i + 1)))
        case measure=>omega
        case rel=>exact ⟨Td,V,i + 1,rfl,by simp,HE.out⟩
      · have hno:Maps.has D (.int .u32 r)=false:=by
          cases e:Maps.has D (.int .u32 r) with
          | false=>rfl
          | true=>exact absurd ((hS.has r hr32).1 e) hin
        rw [hno] at hrun;have hsz:=seenF_size hS (hmap.canon refKeyed) (hmap.tidy refKeyed);obtain ⟨w9,hrun9,hown,hturn⟩:=hmap.store refKeyed Tryz.underlying212 hsz (keyOf_int_mk Tryz.underlying54 (wfR hr32)) (plainElem_int (H:=Unit) Tryz.underlying3 (wfI (n:=i) (by omega) (by omega)));have hu9:=upd_turned hturn;obtain ⟨p,hp,hpt⟩:=ArenaV.tk_iff.1 htk
        have hM9:Hid (FreeM b (mb + 1) mb K T q w (.slice (some ⟨gr,0,none⟩) Td.length fc) Td (V ++ [r]) w9):=by
          have hu:Upd [] w w9:=hM.up.then hu9 fun k hk=>by simp at hk; subst hk; right; exact hM.bw
          have hbq:∀ k,k∈q.all b→k∉[mb]:=fun k hk hm=>by
            simp at hm; subst hm
            have:=HK.out.mem.lt _ hk;have:=hM.bw;omega
          refine ⟨row_keep hM.row fun k hk=>hu9.block k (hM.row.lt k hk).2 ?_,⟨_,hS.put hrl _,own_tight hown⟩,hu,hM.ker.upd hu9 hbq,hM.bm,hM.bw⟩;have:=(hM.row.lt k hk).1
          simp; omega
        have HP:=Lib.hid (And.intro hp (And.intro hpt (And.intro hF hr)));clear hF hM hS hmap hvv htk hown hturn hu9 hsz hno hp hpt;go_wp2_with fail;refine (nodeof_yes b r K T q p w9 hM9.out.ker.mem hr32 HP.out.1 HP.out.2.1).mono ?_;rintro e w10 ⟨rfl,hu10⟩;have hbx:=heap_alloc_new w10 (.cells #[.int .i64 p.var,.int .u32 p.lo,.int .u32 p.hi] 115 (0,0));have x0:=cell_at (j:=0) hbx rfl;have x1:=cell_at (j:=1) hbx rfl;have x2:=cell_at (j:=2) hbx rfl;have HM10:=Lib.hid ((hM9.out.keep hu10).keep ((Upd.refl [] w10).alloc (.cells #[.int .i64 p.var,.int .u32 p.lo,.int .u32 p.hi] 115 (0,0))))
        by_cases h2:r < 2
        · have hpv:p.var=-1:=HK.out.ok.wf.const_var h2 HP.out.1
          have HE:=Lib.hid (And.intro (HP.out.2.2.1.const HP.out.2.2.2 hin h2) HM10.out);generalize p.var=pv at *;subst hpv;clear hu10 HM10 hM9;go_wp2_with fail
          go_roundg (3 * (1048576 - (V ++ [r]).length) + (Td.length - (i + 1)))
          case measure=>simp; omega
          case rel=>exact ⟨Td,V ++ [r],i + 1,rfl,by simp,HE.out⟩
        · have hcl:=HK.out.ok.wf.cl r p (by omega) HP.out.1 HP.out.2.1
          have hvr:=HK.out.ok.wf.vr r p (by omega) HP.out.1 HP.out.2.1
          have hd1:decide (p.var < 0)=false:=by simp; omega
          have hd2:¬ (p.var < 0):=by omega
          have hns:=heap_alloc_new (w10.alloc (.cells #[.int .i64 p.var,.int .u32 p.lo,.int .u32 p.hi] 115 (0,0))) (.cells #[.int .u32 p.lo,.int .u32 p.hi] 54 (0,0));rw [World.size_alloc] at hns;have hbx2:=(heap_alloc_old _ (.cells #[.int .u32 p.lo,.int .u32 p.hi] 54 (0,0)) (heap_lt hbx)).trans hbx;have HB:=Lib.hid (And.intro hbx2 hns);have HM11:=Lib.hid (HM10.out.keep ((Upd.refl [] _).alloc (.cells #[.int .u32 p.lo,.int .u32 p.hi] 54 (0,0))));have HCL:=Lib.hid (And.intro hcl hvr);clear hu10 HM10 hM9 hns hbx2 hbx hcl hvr cr hrun hrun9;go_wp2_with fail
          go_loopg [81] 2 (fun gg s81 wr2=>∃ j:Nat,2 - j=gg∧j≤2∧s81=.int .i64 j∧(∀ (j' c:Nat),j' < j→[p.lo,p.hi][j']?=some c→¬ (p.var=u∧K.vr c=x))∧FreeM b (mb + 1) mb K T q w (.slice (some ⟨gr,0,none⟩) Td.length fc) Td (V ++ [r]) wr2∧Upd [] ((w10.alloc (.cells #[.int .i64 p.var,.int .u32 p.lo,.int .u32 p.hi] 115 (0,0))).alloc (.cells #[.int .u32 p.lo,.int .u32 p.hi] 54 (0,0))) wr2)
          case atStart=>exact ⟨0,by omega,by omega,rfl,fun j' c hj=>by omega,HM11.out,Upd.refl _ _⟩
          case round =>
            obtain ⟨j,rfl,hj2,rfl,hno,hMj,hUj⟩:=hrel;have ebx:=(hUj.block _ (heap_lt HB.out.1) (by simp)).trans HB.out.1;have ens:=(hUj.block _ (heap_lt HB.out.2) (by simp)).trans HB.out.2;have y0:=cell_at (j:=0) ebx rfl
            by_cases hj:j < 2
            · have hjl:(j:Int) < 2:=by omega
              obtain ⟨c,hc⟩ : ∃ c,[p.lo,p.hi][j]?=some c:=⟨_,List.getElem?_eq_getElem (show j < [p.lo,p.hi].length by simpa using hj)⟩
              have hcc:c=p.lo∨c=p.hi:=by
                have:=List.mem_of_getElem? hc
                simpa using this
              have htc:K.A.tk c=true:=by
                rcases hcc with rfl | rfl
                · exact HCL.out.1.1
                · exact HCL.out.1.2
              have hcl:=HK.out.ok.ref_lt htc;obtain ⟨pc,hpc,hpct⟩:=ArenaV.tk_iff.1 htc
              have z0:wr.cell? ⟨w10.heap.size + 1,j,none⟩=some (.int .u32 c):=cell_at ens (by
                rcases j with _ | _ | j
                · simp at hc; subst hc; rfl
                · simp at hc; subst hc; rfl
                · omega)
              have HJ:=Lib.hid (And.intro hno (And.intro hMj (And.intro hUj (And.intro ebx (And.intro hc (And.intro hpc hpct))))));have HCC:=Lib.hid hcc;clear hno hMj hUj ebx ens hc hpc hpct hcc htc;go_wp2_with fail;refine (nodeof_yes b c K T q pc wr HJ.out.2.1.ker.mem (by omega) HJ.out.2.2.2.2.2.1 HJ.out.2.2.2.2.2.2).mono ?_;rintro e w12 ⟨rfl,hu12⟩;have hbc:=heap_alloc_new w12 (.cells #[.int .i64 pc.var,.int .u32 pc.lo,.int .u32 pc.hi] 115 (0,0));have v0:=cell_at (j:=0) hbc rfl;have ebx3:=(hu12.block _ (heap_lt HJ.out.2.2.2.1) (by simp)).trans HJ.out.2.2.2.1;have ebx4:=(heap_alloc_old _ (.cells #[.int .i64 pc.var,.int .u32 pc.lo,.int .u32 pc.hi] 115 (0,0)) (heap_lt ebx3)).trans ebx3;have y4:=cell_at (j:=0) ebx4 rfl;have HU12:=Lib.hid (hu12.alloc (.cells #[.int .i64 pc.var,.int .u32 pc.lo,.int .u32 pc.hi] 115 (0,0)));have HV:Hid (K.vr c=pc.var):=KV.vr_at HJ.out.2.2.2.2.2.1;clear hu12 hbc ebx3 ebx4 y0 z0
              by_cases hpu:p.var=u
              · have hb1:(p.var == (u:Int))=true:=by simpa using hpu
                by_cases hcx:pc.var=x
                · have hb2:(pc.var == (x:Int))=true:=by simpa using hcx
                  have HE:Hid (¬ K.FreeUV u x∧Upd [] w _):=⟨fun h=>h r p (by omega) HP.out.1 HP.out.2.1 ⟨hpu,by rcases HCC.out with e | e <;> rw [← e,HV.out] <;> simp [hcx]⟩,HJ.out.2.1.up.trans HU12.out⟩;clear hpu hcx;go_wp2_with fail;go_ret2;exact ⟨false,rfl,by simpa using HE.out.1,HE.out.2⟩
                · have hb2:(pc.var == (x:Int))=false:=by simpa using hcx
                  have HE:Hid (∀ (j' c:Nat),j' < j + 1→[p.lo,p.hi][j']?=some c→¬ (p.var=u∧K.vr c=x)):=by
                    intro j' c' hj' hc' hh
                    by_cases h:j' < j
                    · exact HJ.out.1 j' c' h hc' hh
                    · obtain rfl:j'=j:=by omega
                      rw [HJ.out.2.2.2.2.1] at hc'; cases hc'
                      exact hcx (by rw [← HV.out]; exact hh.2)
                  clear hpu hcx;go_wp2_with fail
                  go_roundg (2 - (j + 1))
                  case measure=>omega
                  case rel=>exact ⟨j + 1,rfl,by omega,by simp,HE.out,HJ.out.2.1.keep HU12.out,HJ.out.2.2.1.trans HU12.out⟩
              · have hb1:(p.var == (u:Int))=false:=by simpa using hpu
                have HE:Hid (∀ (j' c:Nat),j' < j + 1→[p.lo,p.hi][j']?=some c→¬ (p.var=u∧K.vr c=x)):=fun j' c' hj' hc' hh=>hpu hh.1
                clear hpu;go_wp2_with fail
                go_roundg (2 - (j + 1))
                case measure=>omega
                case rel=>exact ⟨j + 1,rfl,by omega,by simp,HE.out,HJ.out.2.1.keep HU12.out,HJ.out.2.2.1.trans HU12.out⟩
            · obtain rfl:j=2:=by omega
              have y1:=cell_at (j:=1) ebx rfl;have y2:=cell_at (j:=2) ebx rfl
              have HJ:Hid (FreeI K u x (Td ++ [p.lo,p.hi]) (i + 1) (V ++ [r])):=by
                refine HP.out.2.2.1.node HP.out.2.2.2 hin HP.out.1 HCL.out.1.1 HCL.out.1.2 ?_;rintro ⟨h1,h2 | h2⟩
                · exact hno 0 _ (by omega) rfl ⟨h1,h2⟩
                · exact hno 1 _ (by omega) rfl ⟨h1,h2⟩
              have HMJ:=Lib.hid hMj
              have HC2:Hid (∀ u,u∈[Value.int .u32 p.lo,Value.int .u32 p.hi]→u.oneCell'=true):=by
                intro u hu; simp at hu; rcases hu with rfl | rfl <;> rfl
              have hbs:mb + 1≤(wr.alloc (.cells #[.int .u32 p.lo,.int .u32 p.hi] 54 (0,0))).heap.size:=by
                have:=(hMj.row.lt gr rfl)
                rw [World.size_alloc]; omega
              clear hno hMj hUj ebx ens
              go_wp2_with (at_builtin; go_must (refine wpList_append_lies _ rfl (.tmp 102) (.tmp 107) 28 rfl (mb + 1) 54 ti _ 1 4 Tryz.underlying28 HI.out.1 HI.out.2.1 HI.out.2.2.1 HI.out.2.2.2 (by rfl) (by decide) _ Td.length (flatRefs Td) rfl (HMJ.out.row.alloc _) ⟨wr.heap.size,0,none⟩ 2 2 [.int .u32 p.lo,.int .u32 p.hi] rfl rfl ?c1 HC2.out (by omega) (by unfold maxLen; omega) (by omega) hbs _ rfl ?_))
              case c1=>exact World.news_of_block (heap_alloc_new wr (.cells #[.int .u32 p.lo,.int .u32 p.hi] 54 (0,0)))
              intro g5 cap w5 hown hgr hat hlt5
              have HE:Hid (FreeM b (mb + 1) mb K T q w (.slice (some ⟨g5,0,none⟩) (Td.length + 2) cap) (Td ++ [p.lo,p.hi]) (V ++ [r]) w5):=by
                have hgl:=HMJ.out.row.lt gr rfl
                have hu5:Upd [gr] wr w5:=((Upd.refl [gr] wr).alloc _).grown hgr fun k hk=>.inl (by simp [Value.ownBlock] at hk; simp [hk])
                obtain ⟨D5,hS5,hm5⟩:=HMJ.out.map;have hbw:=HMJ.out.bw;refine ⟨by simpa [flatRefs] using hown,⟨D5,hS5,own_keep hm5 (hu5.block _ hm5.lt (by simp; omega))⟩,HMJ.out.up.then hu5 fun k hk=>?_,HMJ.out.ker.upd hu5 fun k hk hm=>?_,HMJ.out.bm,HMJ.out.bw⟩
                · simp at hk; subst hk; right; omega
                · simp at hm; subst hm
                  have:=HK.out.mem.lt _ hk;omega
              have hvl2:=HJ.out.vlen HK.out.ok.wf;rw [List.length_append,List.length_singleton] at hvl2;clear hown hgr hat hlt5;go_wp2_with fail
              go_roundg (3 * (1048576 - (V ++ [r]).length) + ((Td ++ [p.lo,p.hi]).length - (i + 1)))
              case measure=>simp; omega
              case rel=>exact ⟨Td ++ [p.lo,p.hi],V ++ [r],i + 1,rfl,by simp,HJ.out,by simpa using HE.out⟩
    · obtain rfl:i=Td.length:=by have:=hF.il; omega
      have hil:¬ ((Td.length:Int) < (Td.length:Int)):=by omega
      have HE:Hid (K.FreeUV u x∧Upd [] w wr):=⟨hF.done HK.out.ok,hM.up⟩;clear hF hM;go_wp2_with fail;go_ret2;exact ⟨true,rfl,by simpa using HE.out.1,HE.out.2⟩
end Go.Proofs.YtpfafhmkbcahhaaGreat
namespace Go.Proofs.YtpfafhmkbcahhaaGreat
open Go.RowKit Go.Maps Go.ChangeMaps Go.WideShapes
def U64 (x:Int):Prop:=0≤x∧x < 18446744073709551616
theorem wrap_u64 (n:Int):U64 (IntKind.u64.wrap n):=by
  have e:IntKind.u64.wrap n=n % 18446744073709551616:=rfl
  rw [e]; unfold U64; omega
theorem bits_u64 (op:BinOp) (x y:Int):U64 (bits op IntKind.u64 x y):=wrap_u64 _
def growStep (M:List Int) (st:Int × Bool) (w:Nat):Int × Bool:=if bitT st.1 w && decide (bits BinOp.andNot IntKind.u64 (M.getD w 0) st.1≠0) then (bits BinOp.or IntKind.u64 st.1 (M.getD w 0),true) else st
def sweepTo (M:List Int) (n:Nat) (g:Int):Int × Bool:=(List.range n).foldl (growStep M) (g,false)
inductive Grow (M:List Int) (n:Nat):Int→Int→Prop
  | done {g:Int} (h:(sweepTo M n g).2=false):Grow M n g g
  | more {g g':Int} (h:(sweepTo M n g).2=true) (k:Grow M n (sweepTo M n g).1 g'):Grow M n g g'
inductive GrR (M:List Int) (n:Nat):Nat→Int→List Int→Prop
  | zero:GrR M n 0 0 []
  | skip {v:Nat} {d:Int} {gs:List Int} (h:GrR M n v d gs) (hb:bitT d v=true):GrR M n (v + 1) d gs
  | take {v:Nat} {d g:Int} {gs:List Int} (h:GrR M n v d gs) (hb:bitT d v=false) (k:Grow M n (IntKind.u64.wrap (2 ^ v)) g):GrR M n (v + 1) (bits BinOp.or IntKind.u64 d g) (gs ++ [g])
theorem GrR.len {M:List Int} {n v:Nat} {d:Int} {gs:List Int} (h:GrR M n v d gs):gs.length≤v:=by
  induction h with
  | zero=>simp
  | skip _ _ ih=>omega
  | take _ _ _ ih=>simp; omega
end Go.Proofs.YtpfafhmkbcahhaaGreat
namespace Go.Proofs.YtpfafhmkbcahhaaGreat
open Go.RowKit Go.Maps Go.ChangeMaps Go.WideShapes
def nb (x:Int) (i:Nat):Bool:=x.toNat.testBit i
theorem toNat_bv {x:Int} (h:U64 x):(BitVec.ofInt 64 x).toNat=x.toNat:=by
  unfold U64 at h;rw [BitVec.toNat_ofInt]
  have:x % (2 ^ 64:Nat)=x:=by omega
  rw [this]
theorem nb_bv {x:Int} (h:U64 x) (i:Nat):nb x i=(BitVec.ofInt 64 x).getLsbD i:=by
  unfold nb; rw [← toNat_bv h,BitVec.testBit_toNat]
theorem nb_of_bv (B:BitVec 64) (i:Nat):nb ((B.toNat:Int) % 18446744073709551616) i=B.getLsbD i:=by
  have h:=B.isLt
  have:((B.toNat:Int) % 18446744073709551616).toNat=B.toNat:=by omega
  unfold nb; rw [this,BitVec.testBit_toNat]
theorem nb_or {x y:Int} (hx:U64 x) (hy:U64 y) (i:Nat):nb (bits BinOp.or IntKind.u64 x y) i=(nb x i || nb y i):=by
  rw [nb_bv hx,nb_bv hy,← BitVec.getLsbD_or];exact nb_of_bv (BitVec.ofInt 64 x ||| BitVec.ofInt 64 y) i
theorem nb_and {x y:Int} (hx:U64 x) (hy:U64 y) (i:Nat):nb (bits BinOp.and IntKind.u64 x y) i=(nb x i && nb y i):=by
  rw [nb_bv hx,nb_bv hy,← BitVec.getLsbD_and];exact nb_of_bv (BitVec.ofInt 64 x &&& BitVec.ofInt 64 y) i
theorem nb_andNot {x y:Int} (hx:U64 x) (hy:U64 y) {i:Nat} (hi:i < 64):nb (bits BinOp.andNot IntKind.u64 x y) i=(nb x i && !nb y i):=by
  rw [nb_bv hx,nb_bv hy];have e:nb (bits BinOp.andNot IntKind.u64 x y) i=(BitVec.ofInt 64 x &&& ~~~BitVec.ofInt 64 y).getLsbD i:=nb_of_bv _ i;rw [e,BitVec.getLsbD_and,BitVec.getLsbD_not,decide_eq_true hi,Bool.true_and]
theorem nb_pow {n:Nat} (hn:n < 64) (i:Nat):nb (IntKind.u64.wrap (2 ^ n)) i=decide (n=i):=by
  have e:IntKind.u64.wrap ((2:Int) ^ n)=(2:Int) ^ n % 18446744073709551616:=rfl;have h1:(2:Nat) ^ n < 2 ^ 64:=Nat.pow_lt_pow_right (by omega) hn
  have h2:((2:Int) ^ n)=((2 ^ n:Nat):Int):=by push_cast; rfl
  have h3:((2:Int) ^ n % 18446744073709551616).toNat=2 ^ n:=by rw [h2]; generalize (2:Nat) ^ n=m at h1 ⊢; omega
  rw [e]; unfold nb; rw [h3,Nat.testBit_two_pow]
theorem nb_zero (i:Nat):nb 0 i=false:=by simp [nb]
theorem nb_ext {x y:Int} (hx:U64 x) (hy:U64 y) (h:∀ i,i < 64→nb x i=nb y i):x=y:=by
  have:x.toNat=y.toNat:=by
    apply Nat.eq_of_testBit_eq
    intro i
    by_cases hi:i < 64
    · exact h i hi
    · have l:∀ z:Int,U64 z→z.toNat.testBit i=false:=fun z hz=>by
        apply Nat.testBit_lt_two_pow
        have h1:(2:Nat) ^ 64≤2 ^ i:=Nat.pow_le_pow_right (by omega) (by omega)
        unfold U64 at hz; omega
      rw [l x hx,l y hy]
  unfold U64 at hx hy; omega
theorem bitT_nb {x:Int} (hx:U64 x) (v:Nat):bitT x v=nb x v:=by
  obtain ⟨n,rfl⟩ : ∃ n:Nat,x=(n:Int):=⟨x.toNat,by unfold U64 at hx; omega⟩
  have hn:n < 18446744073709551616:=by unfold U64 at hx; omega
  have e:((n:Int) / 2 ^ v)=((n / 2 ^ v:Nat):Int):=by push_cast; rfl
  have hu:U64 ((n:Int) / 2 ^ v):=by
    rw [e]; have:=Nat.div_le_self n (2 ^ v); generalize n / 2 ^ v=m at this ⊢; unfold U64; omega
  have h1:U64 1:=by unfold U64; omega
  have hbit:nb ((n:Int) / 2 ^ v) 0=nb (n:Int) v:=by
    rw [e]; unfold nb
    simp only [Int.toNat_natCast]
    rw [Nat.testBit_div_two_pow,Nat.zero_add]
  have h2:∀ i,nb (bits BinOp.and IntKind.u64 ((n:Int) / 2 ^ v) 1) i=(nb ((n:Int) / 2 ^ v) i && decide (i=0)):=fun i=>by
    rw [nb_and hu h1]
    congr 1
    have:nb 1 i=decide (0=i):=nb_pow (n:=0) (by omega) i
    rw [this]; by_cases h:i=0 <;> simp [h]; omega
  have hW:=bits_u64 BinOp.and ((n:Int) / 2 ^ v) 1;unfold bitT
  cases hb:nb (n:Int) v with
  | true =>
    have:bits BinOp.and IntKind.u64 ((n:Int) / 2 ^ v) 1=1:=nb_ext hW h1 fun i _=>by
      have e1:nb 1 i=decide (0=i):=nb_pow (n:=0) (by omega) i;rw [h2,e1]
      by_cases h:i=0
      · subst h; rw [hbit,hb]; rfl
      · simp [h]; omega
    rw [this]; rfl
  | false =>
    have:bits BinOp.and IntKind.u64 ((n:Int) / 2 ^ v) 1=0:=nb_ext hW (by unfold U64; omega) fun i _=>by
      rw [h2,nb_zero]
      by_cases h:i=0
      · subst h; rw [hbit,hb]; rfl
      · simp [h]
    rw [this]; rfl
theorem WalkL.one {K:KV} {r:Nat} {N:List Nat} (h:WalkL K [] [r] N):WalkN K [] r N:=by
  cases h with
  | cons h t=>cases t; simpa using h
theorem KV.Under.node {K:KV} {P:List Nat} (hw:K.Wf P) {r x:Nat} (ht:K.A.tk r=true) (h:K.Under r x):2≤x∧K.A.tk x=true:=by
  induction h with
  | refl h=>exact ⟨h,ht⟩
  | lo _ hp h2 ih =>
    obtain ⟨p',hp',hpt'⟩:=ArenaV.tk_iff.1 ih.2
    rw [hp] at hp'; cases hp'
    exact ⟨h2,(hw.cl _ _ ih.1 hp hpt').1⟩
  | hi _ hp h2 ih =>
    obtain ⟨p',hp',hpt'⟩:=ArenaV.tk_iff.1 ih.2
    rw [hp] at hp'; cases hp'
    exact ⟨h2,(hw.cl _ _ ih.1 hp hpt').2⟩
theorem WalkN.mem {K:KV} {r x:Nat} {N:List Nat} (h:WalkN K [] r N):x∈N↔K.Under r x:=by
  refine ⟨h.under x,fun hu=>?_⟩
  induction hu with
  | refl h2=>simpa using h.has h2
  | lo _ hp h2 ih =>
    rcases (h.kids _ _ ih hp).1 with h3 | h3
    · omega
    · simpa using h3
  | hi _ hp h2 ih =>
    rcases (h.kids _ _ ih hp).2 with h3 | h3
    · omega
    · simpa using h3
theorem KV.Ok.kid_den {K:KV} (hk:K.Ok) {x:Nat} {p:PlaceV} (h2:2≤x) (hp:K.A.list[x]?=some p) (hpt:p.taken=true) (b:Bool) (y:Nat→Bool):K.den (if b then p.hi else p.lo) y=K.den x (upd y p.var.toNat b):=by
  cases b with
  | true=>exact (KV.den_hi hk.wf hk.ord h2 hp hpt y).symm
  | false=>exact (KV.den_lo hk.wf hk.ord h2 hp hpt y).symm
theorem KV.Ok.mix_kid {K:KV} (hk:K.Ok) {r x:Nat} {p:PlaceV} (h2:2≤x) (hp:K.A.list[x]?=some p) (hpt:p.taken=true) (b:Bool) {a:Nat→Bool} (ha:∀ y,K.den x y=K.den r (K.mix (K.dep x) a y)) :
    ∃ a',∀ y,K.den (if b then p.hi else p.lo) y=K.den r (K.mix (K.dep (if b then p.hi else p.lo)) a' y):=by
  have hvr:=hk.wf.vr x p h2 hp hpt;have hb:=hk.ord.below hk.wf h2 hp hpt;have hcl:=hk.wf.cl x p h2 hp hpt
  have hdx:K.dep x=K.lev p.var.toNat:=by simp [KV.dep,hp,hvr.1]
  have hvl:p.var.toNat < K.vars:=by omega
  generalize hc:(if b then p.hi else p.lo)=c
  have htc:K.A.tk c=true:=by
    subst hc; cases b
    · exact hcl.1
    · exact hcl.2
  have hdc:K.dep x < K.dep c:=by
    subst hc; cases b
    · exact hb.1
    · exact hb.2
  refine ⟨upd a p.var.toNat b,fun y=>?_⟩
  have e1:K.den c y=K.den c (K.mix (K.dep c) (upd a p.var.toNat b) y):=KV.den_same hk.wf hk.ord _ c _ _ htc (Nat.le_refl _) fun u hu hd=>by
    simp only [KV.mix]; rw [if_neg (by omega)]
  rw [e1,← hc,hk.kid_den h2 hp hpt,ha,hc]
  congr 1
  funext u
  simp only [KV.mix,upd]
  by_cases hu:u < K.vars
  · by_cases h3:u=p.var.toNat
    · subst h3
      simp only [hu,true_and,if_true]
      rw [if_neg (by omega),if_pos (by omega)]
    · simp only [hu,true_and,h3,if_false]
      by_cases h4:K.lev u < K.dep x
      · rw [if_pos h4,if_pos (by omega)]
      · rw [if_neg h4]
  · have h3:u≠p.var.toNat:=by omega
    simp [hu,h3]
theorem KV.Ok.mix_under {K:KV} (hk:K.Ok) {r x:Nat} (ht:K.A.tk r=true) (h:K.Under r x):∃ a,∀ y,K.den x y=K.den r (K.mix (K.dep x) a y):=by
  induction h with
  | refl h=>exact ⟨fun _=>false,fun y=>KV.den_same hk.wf hk.ord _ r _ _ ht (Nat.le_refl _) fun u hu hd=>by
      simp only [KV.mix]; rw [if_neg (by omega)]⟩
  | lo h hp h2 ih =>
    obtain ⟨a,ha⟩:=ih;have hn:=h.node hk.wf ht;obtain ⟨p',hp',hpt'⟩:=ArenaV.tk_iff.1 hn.2
    rw [hp] at hp'; cases hp'
    exact hk.mix_kid hn.1 hp hpt' false ha
  | hi h hp h2 ih =>
    obtain ⟨a,ha⟩:=ih;have hn:=h.node hk.wf ht;obtain ⟨p',hp',hpt'⟩:=ArenaV.tk_iff.1 hn.2
    rw [hp] at hp'; cases hp'
    exact hk.mix_kid hn.1 hp hpt' true ha
def Hangs (t:(Nat→Bool)→Bool) (v:Nat):Prop:=∃ y,t (upd y v true)≠t (upd y v false)
theorem KV.Ok.hangs_of {K:KV} (hk:K.Ok) (hu:K.Uni) {r x:Nat} {p:PlaceV} (ht:K.A.tk r=true) (h:K.Under r x) (hp:K.A.list[x]?=some p):Hangs (K.den r) p.var.toNat:=by
  have hn:=h.node hk.wf ht;obtain ⟨p',hp',hpt⟩:=ArenaV.tk_iff.1 hn.2
  rw [hp] at hp'; cases hp'
  have hvr:=hk.wf.vr x p hn.1 hp hpt;have hcl:=hk.wf.cl x p hn.1 hp hpt
  have hdx:K.dep x=K.lev p.var.toNat:=by simp [KV.dep,hp,hvr.1]
  obtain ⟨a,ha⟩:=hk.mix_under ht h
  have hne:∃ y,K.den p.hi y≠K.den p.lo y:=by
    by_cases hh:∃ y,K.den p.hi y≠K.den p.lo y
    · exact hh
    · exfalso
      refine hk.ord.ne x p hn.1 hp hpt (KV.canon hk.wf hk.ord hu _ _ _ hcl.1 hcl.2 (Nat.le_refl _) fun y=>?_)
      by_cases h:K.den p.lo y=K.den p.hi y
      · exact h
      · exact absurd ⟨y,fun e=>h e.symm⟩ hh
  obtain ⟨y,hy⟩:=hne;refine ⟨K.mix (K.dep x) a y,?_⟩
  have e:∀ b,upd (K.mix (K.dep x) a y) p.var.toNat b=K.mix (K.dep x) a (upd y p.var.toNat b):=fun b=>by
    funext u
    simp only [KV.mix,upd]
    by_cases h3:u=p.var.toNat
    · subst h3; rw [if_pos rfl,if_neg (by omega),if_pos rfl]
    · simp [h3]
  rw [e,e,← ha,← ha];have e1:=hk.kid_den hn.1 hp hpt true y;have e2:=hk.kid_den hn.1 hp hpt false y
  simp only [if_true] at e1
  simp only [Bool.false_eq_true,if_false] at e2
  rw [← e1,← e2]; exact hy
theorem KV.Ok.hangs_not {K:KV} (hk:K.Ok) {v:Nat}:∀ (n r:Nat),K.vars - K.dep r≤n→K.A.tk r=true→(∀ x p,K.Under r x→K.A.list[x]?=some p→p.var.toNat≠v)→∀ y b,K.den r (upd y v b)=K.den r y
  | n,r,hn,ht,hx,y,b=>by
    by_cases h2:2≤r
    · obtain ⟨p,u,hp,hpt,hpv,hu,h3,h4,hd⟩:=hk.wf.node_at h2 ht
      have hb:=hk.ord.below hk.wf h2 hp hpt;have hlt:=hk.wf.dep_lt hk.ord h2 ht;have hv:=hx r p (.refl h2) hp
      match n with
      | 0=>omega
      | n + 1 =>
        have ih:∀ c,K.A.tk c=true→K.dep r < K.dep c→(2≤c→K.Under r c)→K.den c (upd y v b)=K.den c y:=fun c hc hd hu=>by
          by_cases hc2:2≤c
          · exact KV.Ok.hangs_not hk n c (by omega) hc (fun x q hx' hq=>hx x q ((hu hc2).trans hx') hq) y b
          · rw [K.den_const (by omega),K.den_const (by omega)]
        rw [KV.den_node hk.wf hk.ord h2 hp hpt,KV.den_node hk.wf hk.ord h2 hp hpt,upd_ne _ _ hv,ih p.hi h4 hb.2 (fun h=>.hi (.refl h2) hp h),ih p.lo h3 hb.1 (fun h=>.lo (.refl h2) hp h)]
    · rw [K.den_const (by omega),K.den_const (by omega)]
theorem KV.Wf.vof_lt {K:KV} {P:List Nat} (h:K.Wf P) {x:Nat} (h2:2≤x) (ht:K.A.tk x=true):K.vof x < K.vars:=by
  obtain ⟨p,v,hp,_,hv,hl,_⟩:=h.node_at h2 ht
  simp [KV.vof,hp]; omega
theorem sup_fold' (K:KV) (N:List Nat) (hv:∀ x,x∈N→K.vof x < 64) (s:Int) (hs:U64 s):U64 (N.foldl (fun s x=>supStep s (K.vof x)) s)∧∀ i,nb (N.foldl (fun s x=>supStep s (K.vof x)) s) i=(nb s i || decide (∃ x,x∈N∧K.vof x=i)):=by
  induction N generalizing s with
  | nil=>exact ⟨hs,fun i=>by simp⟩
  | cons a N ih =>
    obtain ⟨h1,h2⟩:=ih (fun x hx=>hv x (by simp [hx])) (supStep s (K.vof a)) (bits_u64 _ _ _);refine ⟨h1,fun i=>?_⟩;rw [List.foldl_cons,h2];unfold supStep;rw [nb_or hs (wrap_u64 _),nb_pow (hv a (by simp)),Bool.or_assoc]
    congr 1
    rw [Bool.eq_iff_iff];simp
theorem SupIs.bits {K:KV} {r:Nat} {s:Int} (hk:K.Ok) (hu:K.Uni) (ht:K.A.tk r=true) (h:SupIs K r s):U64 s∧∀ v,nb s v=true↔Hangs (K.den r) v:=by
  obtain ⟨N,hN,rfl⟩:=h;have hN:=hN.one
  have hv:∀ x,x∈N→K.vof x < 64:=fun x hx=>by
    have:=hN.two x hx;have:=hk.wf.vof_lt this.1 this.2;have:=hk.wf.vs;omega
  obtain ⟨h1,h2⟩:=sup_fold' K N hv 0 (by unfold U64; omega);refine ⟨h1,fun v=>?_⟩;rw [h2,nb_zero,Bool.false_or,decide_eq_true_eq];constructor
  · rintro ⟨x,hx,rfl⟩
    have ht':=hN.two x hx;obtain ⟨p,hp,hpt⟩:=ArenaV.tk_iff.1 ht'.2;have:=hk.hangs_of hu ht (hN.under x hx) hp
    simpa [KV.vof,hp] using this
  · intro hh
    by_cases he:∃ x,x∈N∧K.vof x=v
    · exact he
    · exfalso
      obtain ⟨y,hy⟩:=hh;have key:=hk.hangs_not (v:=v) _ r (Nat.le_refl _) ht (fun x p hx hp hv=>he ⟨x,hN.mem.2 hx,by simp [KV.vof,hp,hv]⟩);exact hy (by rw [key,key])
end Go.Proofs.YtpfafhmkbcahhaaGreat
namespace Go.Proofs.YtpfafhmkbcahhaaGreat
structure TV where
  n:Nat
  ws:List Int
deriving DecidableEq
def wordsN (n:Nat):Nat:=if n≤6 then 1 else 2 ^ (n - 6)
structure TV.Ok (t:TV):Prop where
  n16:t.n≤16
  len:t.ws.length=wordsN t.n
  u:∀ x,x∈t.ws→U64 x
  low:t.n < 6→∀ x,x∈t.ws→∀ i,2 ^ t.n≤i→nb x i=false
def TV.bit (t:TV) (x:Nat):Bool:=nb (t.ws.getD (x / 64) 0) (x % 64)
theorem nb_high {x:Int} (h:U64 x) {i:Nat} (hi:64≤i):nb x i=false:=by
  apply Nat.testBit_lt_two_pow
  have h1:(2:Nat) ^ 64≤2 ^ i:=Nat.pow_le_pow_right (by omega) hi
  unfold U64 at h; omega
theorem wordsN_pos (n : Nat) : 0 < wordsN n := by unfold wordsN; split; · omega
                                                  · exact Nat.two_pow_pos _
theorem wordsN_mul {n:Nat} (h:6≤n):wordsN n * 64=2 ^ n:=by
  unfold wordsN;split
  · obtain rfl:n=6:=by omega
    rfl
  · have:n=(n - 6) + 6:=by omega
    rw [this,Nat.pow_add]; simp
theorem TV.Ok.word {t:TV} (h:t.Ok) {i:Nat} (hi:i < wordsN t.n):U64 (t.ws.getD i 0)∧t.ws.getD i 0∈t.ws∧t.ws[i]?=some (t.ws.getD i 0):=by
  have hl:i < t.ws.length:=by rw [h.len]; exact hi
  have e:t.ws[i]?=some (t.ws.getD i 0):=by rw [List.getD_eq_getElem?_getD,List.getElem?_eq_getElem hl]; rfl
  have hm:=List.mem_of_getElem? e;exact ⟨h.u _ hm,hm,e⟩
theorem div64_lt {n x:Nat} (hx:x < 2 ^ n):x / 64 < wordsN n:=by
  by_cases h:6≤n
  · have:=wordsN_mul h; omega
  · have:(2:Nat) ^ n≤2 ^ 6:=Nat.pow_le_pow_right (by omega) (by omega)
    unfold wordsN; rw [if_pos (by omega)]; omega
theorem TV.ext {t u:TV} (ht:t.Ok) (hu:u.Ok) (hn:t.n=u.n) (h:∀ x,x < 2 ^ t.n→t.bit x=u.bit x):t=u:=by
  obtain ⟨n,ws⟩:=t;obtain ⟨m,vs⟩:=u
  simp only at hn; subst hn
  congr 1
  apply List.ext_getElem?
  intro i
  by_cases hi:i < wordsN n
  · obtain ⟨a1,a2,a3⟩:=ht.word (i:=i) hi
    obtain ⟨b1,b2,b3⟩:=hu.word (i:=i) hi
    show ws[i]?=vs[i]?
    have a3':ws[i]?=some (ws.getD i 0):=a3;have b3':vs[i]?=some (vs.getD i 0):=b3;rw [a3',b3']
    congr 1
    refine nb_ext a1 b1 fun j hj=>?_
    by_cases h6:6≤n
    · have hw:=wordsN_mul h6
      have:=h (64 * i + j) (by show 64 * i + j < 2 ^ n; omega);unfold TV.bit at this;rw [show (64 * i + j) / 64=i by omega,show (64 * i + j) % 64=j by omega] at this;exact this
    · have hi0:i=0:=by unfold wordsN at hi; rw [if_pos (by omega)] at hi; omega
      subst hi0
      by_cases hj2:j < 2 ^ n
      · have:=h j hj2
        unfold TV.bit at this;rw [show j / 64=0 by omega,show j % 64=j by omega] at this;exact this
      · rw [ht.low (by simpa using h6) _ a2 j (by simpa using hj2),hu.low (by simpa using h6) _ b2 j (by simpa using hj2)]
  · have e1:=ht.len
    have e2:=hu.len
    simp only at e1 e2
    rw [List.getElem?_eq_none (by omega),List.getElem?_eq_none (by omega)]
def idx:Nat→(Nat→Bool)→Nat
  | 0,_=>0
  | n + 1,y=>idx n y + if y n then 2 ^ n else 0
theorem idx_lt:∀ (n:Nat) (y:Nat→Bool),idx n y < 2 ^ n
  | 0,_=>by simp [idx]
  | n + 1,y=>by
    have:=idx_lt n y
    have e:(2:Nat) ^ (n + 1)=2 ^ n + 2 ^ n:=by rw [Nat.pow_succ]; omega
    unfold idx; split <;> omega
theorem idx_bit:∀ (n:Nat) (y:Nat→Bool) (v:Nat),(idx n y).testBit v=(decide (v < n) && y v)
  | 0,y,v=>by simp [idx]
  | n + 1,y,v=>by
    have hl:=idx_lt n y;have ih:=idx_bit n y v;unfold idx
    by_cases hy:y n=true
    · rw [if_pos hy,Nat.add_comm]
      by_cases hv:v=n
      · subst hv
        rw [Nat.testBit_two_pow_add_eq,Nat.testBit_lt_two_pow hl]
        simp [hy]
      · by_cases hvn:v < n
        · rw [Nat.testBit_two_pow_add_gt hvn,ih]
          simp [hvn,show v < n + 1 by omega]
        · have h2:2 ^ n + idx n y < 2 ^ v:=by
            have e:(2:Nat) ^ (n + 1)=2 ^ n + 2 ^ n:=by rw [Nat.pow_succ]; omega
            have:(2:Nat) ^ (n + 1)≤2 ^ v:=Nat.pow_le_pow_right (by omega) (by omega);omega
          rw [Nat.testBit_lt_two_pow h2]
          simp [show ¬ v < n + 1 by omega]
    · rw [if_neg hy,Nat.add_zero,ih]
      by_cases hv:v=n
      · subst hv; simp [hy]
      · have:(v < n)↔(v < n + 1):=by omega
        simp [this]
theorem idx_of {n x:Nat} (hx:x < 2 ^ n):idx n (fun v=>x.testBit v)=x:=by
  apply Nat.eq_of_testBit_eq
  intro v
  rw [idx_bit]
  by_cases hv:v < n
  · simp [hv]
  · have:x < 2 ^ v:=Nat.lt_of_lt_of_le hx (Nat.pow_le_pow_right (by omega) (by omega))
    rw [Nat.testBit_lt_two_pow this]; simp [hv]
def setb (x v:Nat) (b:Bool):Nat:=if x.testBit v=b then x else if b then x + 2 ^ v else x - 2 ^ v
theorem tb_add {x v:Nat} (h:x.testBit v=false) (u:Nat):(x + 2 ^ v).testBit u=if u=v then true else x.testBit u:=by
  by_cases hu:u=v
  · subst hu; rw [if_pos rfl,Nat.add_comm,Nat.testBit_two_pow_add_eq,h]; rfl
  · rw [if_neg hu]
    have e:x + 2 ^ v=x ||| 2 ^ v:=by
      have hd:=Nat.div_add_mod x (2 ^ (v + 1))
      have hm:x % 2 ^ (v + 1) < 2 ^ v:=by
        have h1:x % 2 ^ (v + 1) < 2 ^ (v + 1):=Nat.mod_lt _ (Nat.two_pow_pos _)
        have h2:(x % 2 ^ (v + 1)).testBit v=false:=by rw [Nat.testBit_mod_two_pow,h]; simp
        by_cases hge:2 ^ v≤x % 2 ^ (v + 1)
        · exfalso
          have e2:(2:Nat) ^ (v + 1)=2 ^ v + 2 ^ v:=by rw [Nat.pow_succ]; omega
          have e3:x % 2 ^ (v + 1)=2 ^ v + (x % 2 ^ (v + 1) - 2 ^ v):=by omega
          rw [e3,Nat.testBit_two_pow_add_eq,Nat.testBit_lt_two_pow (by omega)] at h2;cases h2
        · omega
      apply Nat.eq_of_testBit_eq
      intro i
      have e4:x + 2 ^ v=2 ^ (v + 1) * (x / 2 ^ (v + 1)) + (2 ^ v + x % 2 ^ (v + 1)):=by omega
      have e5:2 ^ v + x % 2 ^ (v + 1) < 2 ^ (v + 1):=by
        have e2:(2:Nat) ^ (v + 1)=2 ^ v + 2 ^ v:=by rw [Nat.pow_succ]; omega
        omega
      rw [e4,Nat.testBit_two_pow_mul_add _ e5,Nat.testBit_or,Nat.testBit_two_pow];have h6:=Nat.testBit_mod_two_pow x (v + 1) i
      have h7:x.testBit i=if i < v + 1 then (x % 2 ^ (v + 1)).testBit i else (x / 2 ^ (v + 1)).testBit (i - (v + 1)):=by
        split
        · rename_i hi; rw [h6]; simp [hi]
        · rename_i hi; rw [Nat.testBit_div_two_pow]; congr 1; omega
      rw [h7]
      by_cases hi:i < v + 1
      · rw [if_pos hi,if_pos hi]
        by_cases hiv:i=v
        · subst hiv; rw [Nat.testBit_two_pow_add_eq,Nat.testBit_lt_two_pow hm]; simp
        · rw [Nat.testBit_two_pow_add_gt (by omega)]; simp [Ne.symm hiv]
      · rw [if_neg hi,if_neg hi]
        have:¬ v=i:=by omega
        simp [this]
    rw [e,Nat.testBit_or,Nat.testBit_two_pow]
    simp [Ne.symm hu]
theorem setb_bit (x v:Nat) (b:Bool) (u:Nat):(setb x v b).testBit u=if u=v then b else x.testBit u:=by
  unfold setb
  by_cases h:x.testBit v=b
  · rw [if_pos h]
    by_cases hu:u=v
    · subst hu; rw [if_pos rfl]; exact h
    · rw [if_neg hu]
  · rw [if_neg h]
    cases b with
    | true =>
      have h':x.testBit v=false:=by simpa using h
      rw [if_pos rfl,tb_add h']
    | false =>
      have h':x.testBit v=true:=by simpa using h
      have hge:2 ^ v≤x:=Nat.ge_two_pow_of_testBit h'
      have h0:(x - 2 ^ v).testBit v=false:=by
        cases e:(x - 2 ^ v).testBit v with
        | false=>rfl
        | true =>
          have:=Nat.testBit_two_pow_add_eq (x - 2 ^ v) v
          rw [Nat.add_comm,Nat.sub_add_cancel hge,h',e] at this; cases this
      have:=tb_add h0 u;rw [Nat.sub_add_cancel hge] at this
      simp only [Bool.false_eq_true,if_false]
      by_cases hu:u=v
      · subst hu; rw [if_pos rfl]; exact h0
      · rw [if_neg hu] at this ⊢; exact this.symm
theorem setb_lt {x v n:Nat} (b:Bool) (hx:x < 2 ^ n) (hv:v < n):setb x v b < 2 ^ n:=by
  apply Nat.lt_pow_two_of_testBit
  intro i hi
  rw [setb_bit,if_neg (by omega)];exact Nat.testBit_lt_two_pow (Nat.lt_of_lt_of_le hx (Nat.pow_le_pow_right (by omega) hi))
theorem setb_idx {n v:Nat} (hv:v < n) (y:Nat→Bool) (b:Bool):setb (idx n y) v b=idx n (upd y v b):=by
  apply Nat.eq_of_testBit_eq
  intro u
  rw [setb_bit,idx_bit,idx_bit]
  by_cases hu:u=v
  · subst hu; simp [hv,upd]
  · simp [hu,upd]
def TV.fn (t:TV) (y:Nat→Bool):Bool:=t.bit (idx t.n y)
theorem TV.fn_ext {t u:TV} (ht:t.Ok) (hu:u.Ok) (hn:t.n=u.n) (h:∀ y,t.fn y=u.fn y):t=u :=
  TV.ext ht hu hn fun x hx=>by
    have:=h fun v=>x.testBit v
    unfold TV.fn at this;rw [idx_of hx,← hn,idx_of hx] at this;exact this
theorem TV.fn_same (t:TV) {x y:Nat→Bool} (h:∀ v,v < t.n→x v=y v):t.fn x=t.fn y:=by
  have:idx t.n x=idx t.n y:=by
    apply Nat.eq_of_testBit_eq
    intro v
    rw [idx_bit,idx_bit]
    by_cases hv:v < t.n
    · simp [hv,h v hv]
    · simp [hv]
  unfold TV.fn; rw [this]
end Go.Proofs.YtpfafhmkbcahhaaGreat
namespace Go.Proofs.YtpfafhmkbcahhaaGreat
open Go.RowKit
def mkT (n:Nat) (f:Nat→Bool):TV:=⟨n,(List.range (wordsN n)).map fun i=>((idx 64 fun j=>decide (64 * i + j < 2 ^ n) && f (64 * i + j):Nat):Int)⟩
theorem nb_cast (m i:Nat):nb (m:Int) i=m.testBit i:=by simp [nb]
theorem mkT_word (n:Nat) (f:Nat→Bool) {i:Nat} (hi:i < wordsN n):(mkT n f).ws.getD i 0=((idx 64 fun j=>decide (64 * i + j < 2 ^ n) && f (64 * i + j):Nat):Int):=by
  rw [List.getD_eq_getElem?_getD]
  simp [mkT,hi]
theorem mkT_ok {n:Nat} (f:Nat→Bool) (hn:n≤16):(mkT n f).Ok:=by
  refine ⟨hn,by simp [mkT],fun x hx=>?_,fun h6 x hx i hi=>?_⟩
  · simp only [mkT,List.mem_map] at hx
    obtain ⟨i,_,rfl⟩:=hx
    have:=idx_lt 64 fun j=>decide (64 * i + j < 2 ^ n) && f (64 * i + j)
    unfold U64; omega
  · have h6':n < 6:=h6
    have hi':2 ^ n≤i:=hi
    simp only [mkT,List.mem_map,List.mem_range] at hx
    obtain ⟨j,hj,rfl⟩:=hx
    have hj0:j=0:=by unfold wordsN at hj; rw [if_pos (by omega)] at hj; omega
    subst hj0;rw [nb_cast,idx_bit]
    simp; intro _ h; omega
theorem mkT_bit {n:Nat} (f:Nat→Bool) {x:Nat} (hx:x < 2 ^ n):(mkT n f).bit x=f x:=by
  unfold TV.bit;rw [mkT_word n f (div64_lt hx),nb_cast,idx_bit]
  have e:64 * (x / 64) + x % 64=x:=by omega
  simp only [e,hx,decide_true,Bool.true_and]
  have:x % 64 < 64:=Nat.mod_lt _ (by omega)
  simp [this]
theorem mkT_n (n:Nat) (f:Nat→Bool):(mkT n f).n=n:=rfl
theorem mkT_eq {t:TV} (ht:t.Ok) {f:Nat→Bool} (h:∀ x,x < 2 ^ t.n→t.bit x=f x):t=mkT t.n f :=
  TV.ext ht (mkT_ok f ht.n16) rfl fun x hx=>by rw [h x hx,mkT_bit f hx]
theorem mkT_fn {n:Nat} (f:Nat→Bool) (y:Nat→Bool):(mkT n f).fn y=f (idx n y):=by
  unfold TV.fn; rw [mkT_n,mkT_bit f (idx_lt n y)]
def constT (n:Nat) (b:Bool):TV:=mkT n fun _=>b
def varT (n v:Nat):TV:=mkT n fun x=>x.testBit v
def cofT (t:TV) (v:Nat) (b:Bool):TV:=mkT t.n fun x=>t.bit (setb x v b)
theorem constT_fn (n:Nat) (b:Bool) (y:Nat→Bool):(constT n b).fn y=b:=mkT_fn _ y
theorem cofT_fn {t:TV} {v:Nat} (hv:v < t.n) (b:Bool) (y:Nat→Bool):(cofT t v b).fn y=t.fn (upd y v b):=by
  unfold cofT; rw [mkT_fn,setb_idx hv]; rfl
theorem cofT_ok {t:TV} (ht:t.Ok) (v:Nat) (b:Bool):(cofT t v b).Ok:=mkT_ok _ ht.n16
def depT (t:TV) (v:Nat):Bool:=!decide (cofT t v false=cofT t v true)
theorem depT_iff {t:TV} (ht:t.Ok) {v:Nat} (hv:v < t.n):depT t v=true↔Hangs t.fn v:=by
  unfold depT;rw [Bool.not_eq_true',decide_eq_false_iff_not];constructor
  · intro hne
    by_cases hh:∃ y,t.fn (upd y v true)≠t.fn (upd y v false)
    · exact hh
    · exfalso
      refine hne (TV.fn_ext (cofT_ok ht v false) (cofT_ok ht v true) rfl fun y=>?_);rw [cofT_fn hv,cofT_fn hv]
      by_cases h:t.fn (upd y v false)=t.fn (upd y v true)
      · exact h
      · exact absurd ⟨y,fun e=>h e.symm⟩ hh
  · rintro ⟨y,hy⟩ e
    exact hy (by rw [← cofT_fn hv true y,← cofT_fn hv false y,e])
theorem setb_low {x v:Nat} (b:Bool) (hv:v < 6):setb x v b / 64=x / 64∧setb x v b % 64=setb (x % 64) v b:=by
  constructor
  · apply Nat.eq_of_testBit_eq
    intro i
    rw [show (64:Nat)=2 ^ 6 from rfl,Nat.testBit_div_two_pow,Nat.testBit_div_two_pow,setb_bit,if_neg (by omega)]
  · apply Nat.eq_of_testBit_eq
    intro i
    rw [show (64:Nat)=2 ^ 6 from rfl,Nat.testBit_mod_two_pow,setb_bit,setb_bit,Nat.testBit_mod_two_pow]
    by_cases h:i=v
    · subst h; simp [hv]
    · simp [h]
theorem u64_zero:U64 0:=by unfold U64; omega
theorem nb_shr {x:Int} (hx:U64 x) (k i:Nat):U64 (x / 2 ^ k)∧nb (x / 2 ^ k) i=nb x (i + k):=by
  obtain ⟨n,rfl⟩ : ∃ n:Nat,x=(n:Int):=⟨x.toNat,by unfold U64 at hx; omega⟩
  have e:((n:Int) / 2 ^ k)=((n / 2 ^ k:Nat):Int):=by push_cast; rfl
  refine ⟨?_,?_⟩
  · rw [e]
    have h1:=Nat.div_le_self n (2 ^ k);generalize n / 2 ^ k=m at h1 ⊢
    unfold U64 at hx ⊢; omega
  · rw [e,nb_cast,nb_cast,Nat.testBit_div_two_pow,Nat.add_comm]
theorem nb_shl {x:Int} (hx:U64 x) (k i:Nat):nb (IntKind.u64.wrap (x * 2 ^ k)) i=(decide (i < 64) && (decide (k≤i) && nb x (i - k))):=by
  obtain ⟨n,rfl⟩ : ∃ n:Nat,x=(n:Int):=⟨x.toNat,by unfold U64 at hx; omega⟩
  have e:IntKind.u64.wrap ((n:Int) * 2 ^ k)=((n * 2 ^ k % 18446744073709551616:Nat):Int):=by
    have h1:IntKind.u64.wrap ((n:Int) * 2 ^ k)=((n:Int) * 2 ^ k) % 18446744073709551616:=rfl
    have h2:(n:Int) * 2 ^ k=((n * 2 ^ k:Nat):Int):=by push_cast; rfl
    rw [h1,h2];generalize n * 2 ^ k=m;omega
  rw [e,nb_cast,nb_cast,show (18446744073709551616:Nat)=2 ^ 64 from rfl,Nat.testBit_mod_two_pow,Nat.testBit_mul_two_pow]
def cofW (v:Nat) (b:Bool) (ones w:Int):Int :=
  if b then bits BinOp.or IntKind.u64 (bits BinOp.and IntKind.u64 w ones) (bits BinOp.and IntKind.u64 w ones / 2 ^ (2 ^ v))
  else bits BinOp.or IntKind.u64 (bits BinOp.andNot IntKind.u64 w ones) (IntKind.u64.wrap (bits BinOp.andNot IntKind.u64 w ones * 2 ^ (2 ^ v)))
theorem low_facts:∀ v,v < 6→∀ i,i < 64→(((i + 2 ^ v).testBit v=!i.testBit v)∧(i.testBit v=true→2 ^ v≤i∧(i - 2 ^ v).testBit v=false)∧(2 ^ v≤i→i.testBit v=false→(i - 2 ^ v).testBit v=true)):=by decide +kernel
theorem cofW_bit {v:Nat} (hv:v < 6) (b:Bool) {ones w:Int} (hw:U64 w) (ho:U64 ones) (hob:∀ i,i < 64→nb ones i=i.testBit v):U64 (cofW v b ones w)∧∀ i,i < 64→nb (cofW v b ones w) i=nb w (setb i v b):=by
  have p6:(2:Nat) ^ v≤32:=by
    have:(2:Nat) ^ v≤2 ^ 5:=Nat.pow_le_pow_right (by omega) (by omega);omega
  unfold cofW
  cases b with
  | true =>
    rw [if_pos rfl];have hA:=bits_u64 BinOp.and w ones
    have hS:=fun i=>nb_shr hA (2 ^ v) i
    refine ⟨bits_u64 _ _ _,fun i hi=>?_⟩;obtain ⟨f1,f2,f3⟩:=low_facts v hv i hi;rw [nb_or hA (hS 0).1,(hS i).2,nb_and hw ho,nb_and hw ho,hob i hi];unfold setb
    cases hb:i.testBit v with
    | true =>
      rw [if_pos rfl]
      have:nb ones (i + 2 ^ v)=false:=by
        by_cases h64:i + 2 ^ v < 64
        · rw [hob _ h64,f1,hb]; rfl
        · exact nb_high ho (by omega)
      rw [this]; simp
    | false =>
      simp only [Bool.false_eq_true,if_false,if_true,Bool.and_false,Bool.false_or]
      by_cases h64:i + 2 ^ v < 64
      · rw [hob _ h64,f1,hb]; simp
      · rw [nb_high hw (by omega)]; simp
  | false =>
    simp only [Bool.false_eq_true,if_false]
    have hA:=bits_u64 BinOp.andNot w ones;refine ⟨bits_u64 _ _ _,fun i hi=>?_⟩;obtain ⟨f1,f2,f3⟩:=low_facts v hv i hi;have hsub:=Nat.sub_le i (2 ^ v);rw [nb_or hA (wrap_u64 _),nb_shl hA,nb_andNot hw ho hi,hob i hi];unfold setb
    cases hb:i.testBit v with
    | true =>
      obtain ⟨g1,g2⟩:=f2 hb
      simp only [Bool.not_true,Bool.and_false,Bool.false_or,hi,decide_true,Bool.true_and,g1]
      rw [nb_andNot hw ho (by omega),hob _ (by omega),g2]; simp
    | false =>
      rw [if_pos rfl]
      simp only [Bool.not_false,Bool.and_true,hi,decide_true,Bool.true_and]
      by_cases hle:2 ^ v≤i
      · rw [nb_andNot hw ho (by omega),hob _ (by omega),f3 hle hb]; simp
      · simp [hle]
theorem cof_low {t:TV} (ht:t.Ok) {v:Nat} (hv:v < 6) (hvn:v < t.n) (b:Bool) {ones:Int} (ho:U64 ones) (hob:∀ i,i < 64→nb ones i=i.testBit v):cofT t v b=⟨t.n,t.ws.map (cofW v b ones)⟩:=by
  have hok:(⟨t.n,t.ws.map (cofW v b ones)⟩ : TV).Ok:=by
    refine ⟨ht.n16,by simp [ht.len],fun x hx=>?_,fun h6 x hx i hi=>?_⟩
    · obtain ⟨w,hw,rfl⟩:=List.mem_map.1 hx
      exact (cofW_bit hv b (ht.u w hw) ho hob).1
    · obtain ⟨w,hw,rfl⟩:=List.mem_map.1 hx
      have hc:=cofW_bit hv b (ht.u w hw) ho hob
      by_cases h64:i < 64
      · rw [hc.2 i h64]
        have h6':t.n < 6:=h6;have hi':2 ^ t.n≤i:=hi;refine ht.low h6' w hw _ ?_
        by_cases hlt:setb i v b < 2 ^ t.n
        · exfalso
          have:setb (setb i v b) v (i.testBit v)=i:=by
            apply Nat.eq_of_testBit_eq
            intro u
            rw [setb_bit,setb_bit]
            by_cases hu:u=v
            · subst hu; simp
            · simp [hu]
          have h2:=setb_lt (i.testBit v) hlt hvn
          rw [this] at h2; omega
        · omega
      · exact nb_high hc.1 (by omega)
  refine (mkT_eq hok fun x hx=>?_).symm;have hd:=div64_lt (n:=t.n) hx;obtain ⟨w1,w2,w3⟩:=ht.word hd;unfold TV.bit
  have e:(t.ws.map (cofW v b ones)).getD (x / 64) 0=cofW v b ones (t.ws.getD (x / 64) 0):=by
    rw [List.getD_eq_getElem?_getD,List.getElem?_map,w3]; rfl
  show nb ((t.ws.map (cofW v b ones)).getD (x / 64) 0) (x % 64)=nb (t.ws.getD (setb x v b / 64) 0) (setb x v b % 64)
  rw [e,(cofW_bit hv b w1 ho hob).2 _ (Nat.mod_lt _ (by omega)),(setb_low b hv).1,(setb_low b hv).2]
end Go.Proofs.YtpfafhmkbcahhaaGreat
