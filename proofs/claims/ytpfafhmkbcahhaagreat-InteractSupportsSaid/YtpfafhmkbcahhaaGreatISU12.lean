import Derived.Test.YtpfafhmkbcahhaaGreatISU11
set_option maxRecDepth 100000
set_option maxHeartbeats 3200000
namespace Go.Proofs.YtpfafhmkbcahhaaGreat
open Go.RowKit Go.Maps Go.ChangeMaps Go.WideShapes
theorem Tryz.infoU64:(Tryz.prog.info? 96).map (fun i=>(i.zero,i.size,i.bytes))=some (some (.int .u64 0),1,8):=by kernel_rfl
def flatU (l:List Int):List Value:=l.map fun n=>Value.int .u64 n
def SupIs (K:KV) (r:Nat) (s:Int):Prop:=∃ N:List Nat,WalkL K [] [r] N/\s=N.foldl (fun s x=>supStep s (K.vof x)) 0
def SupL (K:KV) (rs:List Nat) (ss:List Int):Prop:=ss.length=rs.length/\∀ (i r:Nat) (s:Int),rs[i]?=some r->ss[i]?=some s->SupIs K r s
theorem SupL.nil (K:KV):SupL K [] []:=⟨rfl,fun i r s h=>by simp at h⟩
theorem SupL.snoc {K:KV} {rs:List Nat} {ss:List Int} {r:Nat} {s:Int} (h:SupL K rs ss) (hs:SupIs K r s):SupL K (rs++[r]) (ss++[s]):=by
 refine ⟨by simp [h.1],fun i r' s' h1 h2=>?_⟩
 by_cases hi:i<rs.length
 ·rw [List.getElem?_append_left hi] at h1
  rw [List.getElem?_append_left (by rw [h.1];exact hi)] at h2;exact h.2 i r' s' h1 h2
 ·rw [List.getElem?_append_right (by omega)] at h1
  rw [List.getElem?_append_right (by rw [h.1];omega),h.1] at h2
  cases e:i-rs.length with
  | zero=>rw [e] at h1 h2;simp at h1 h2;subst h1 h2;exact hs
  | succ k=>rw [e] at h1;simp at h1
def bitT (s:Int) (v:Nat):Bool:=bits BinOp.and IntKind.u64 (s/2 ^ v) 1 == 1
def orNotT (x s:Int) (v:Nat):Int:=bits BinOp.or IntKind.u64 x (bits BinOp.andNot IntKind.u64 s (IntKind.u64.wrap (2 ^ v)))
def matUpd (s:Int) (M:List Int) (v:Nat):List Int:=if bitT s v then M.set v (orNotT (M.getD v 0) s v) else M
def matRow (n:Nat) (M:List Int) (s:Int):List Int:=(List.range n).foldl (matUpd s) M
theorem madeU (n:Nat):(madeCells #[Value.int .u64 0] n).toList=List.replicate n (Value.int .u64 0):=by
 apply List.ext_getElem?
 intro i
 by_cases hi:i<n
 ·simp [madeCells,hi,Nat.mod_one]
 ·simp [madeCells,hi]
structure MatR (w:World) (g n:Nat) (M:List Int) (wr:World):Prop where
 row:wr.ownsRow w.heap.size 96 1 (.slice (some ⟨g,0,none⟩) n n) n (flatU M)
 len:M.length=n
 up:Upd [] w wr
theorem MatR.keep {w wr w2:World} {g n:Nat} {M:List Int} (h:MatR w g n M wr) (u:Upd [] wr w2):MatR w g n M w2 :=
 ⟨row_keep h.row fun k hk=>u.block k (h.row.lt k hk).2 (by simp),h.len,h.up.trans u⟩
theorem MatR.set {w wr:World} {g n v:Nat} {M:List Int} (h:MatR w g n M wr) (hv:v<n) (x:Int):MatR w g n (M.set v x) (wr.setCell ⟨g,v,none⟩ (.int .u64 x)):=by
 refine ⟨?_,by simpa using h.len,h.up.setCell (p:=⟨g,v,none⟩) (.inr (h.row.lt g rfl).1) _⟩;have:=row_set h.row (j:=v) (by omega) (.int .u64 x)
 have e:(flatU M).set v (.int .u64 x)=flatU (M.set v x):=by simp [flatU,List.map_set]
 rw [<- e];exact this
theorem matrix_spec (b:Nat) (K:KV) (T:List DM) (q:KPtr) (w:World) (h:KerIn w b K T q) :
  Calls Tryz.prog 55 #[.pointer (some ⟨b,0,none⟩)] w fun e w'=>∃ (g:Nat) (ss:List Int),e=.returned (.slice (some ⟨g,0,none⟩) K.vars K.vars)/\SupL K K.roots ss/\MatR w g K.vars (ss.foldl (matRow K.vars) (List.replicate K.vars 0)) w':=by
 obtain ⟨i2,hi2,hz2,hs2,hb2⟩:=info_parts Tryz.infoU64;have HI:=Lib.hid (And.intro hi2 (And.intro hz2 (And.intro hs2 hb2)));have HK:=Lib.hid h;have hvs:=h.ok.wf.vs;clear h hi2 hz2 hs2 hb2
 go_enter Tryz.func55,Tryz.ntmps55
 go_wp2_with fail;refine (vars_spec b K T q _ HK.out.mem).mono ?_;rintro e w1 ⟨rfl,rfl⟩
 go_wp2_with (refine wpList_make_full _ rfl (.tmp 12) (.tmp 12) 23 rfl w1.heap.size 96 i2 (.int .u64 0) 1 Tryz.underlying23 HI.out.1 HI.out.2.1 HI.out.2.2.1 .i64 .i64 _ _ K.vars rfl rfl rfl rfl (by rw [HI.out.2.2.2];omega) (by unfold maxLen;omega) (Nat.le_refl _) ?_)
 obtain ⟨g,hg⟩ : ∃ g,w1.heap.size=g:=⟨_,rfl⟩;rw [hg]
 intro w2 ho hgr
 have HM0:Hid (MatR w1 g K.vars (List.replicate K.vars 0) w2):=by
  refine ⟨?_,by simp,(Upd.refl [] w1).grown hgr (by simp)⟩;rw [hg]
  have e:flatU (List.replicate K.vars 0)=(madeCells #[Value.int .u64 0] K.vars).toList:=by
   rw [flatU,List.map_replicate];exact (madeU K.vars).symm
  rw [e];exact ho
 clear ho hgr;go_wp2_with fail;refine (roots_spec b K T q _ (HK.out.upd HM0.out.up (by simp))).mono ?_;rintro e w3 ⟨lv,rfl,hr3,hu3⟩;obtain ⟨fa,fc,rfl,_⟩:=row_nil_len hr3;have HM3:=Lib.hid (HM0.out.keep hu3);have HR:=Lib.hid hr3
 have hrl:K.roots.length<=1048576:=by
  have h1:=HK.out.ok.wf.len;have h2:=HK.out.ok.wf.ul;have h3:=HK.out.ok.wf.ok.lp;have h4:=HK.out.ok.wf.ok.pm;have h5:=K.rootsI_len K.holds.length
  show (K.rootsI _).length<=_
  omega
 have hg2:=(HM0.out.row.lt g rfl).2;clear hr3 hu3 HM0;go_wp2_with fail
 go_loopg [17] K.roots.length (fun gg s17 wr=>∃ (i:Nat) (ss:List Int),K.roots.length-i=gg/\i<=K.roots.length/\s17=.int .i64 i/\SupL K (K.roots.take i) ss/\MatR w1 g K.vars (ss.foldl (matRow K.vars) (List.replicate K.vars 0)) wr/\Upd [g] w3 wr)
 case atStart=>exact ⟨0,[],by omega,by omega,rfl,by simpa using SupL.nil K,HM3.out,Upd.refl _ _⟩
 case round =>
  obtain ⟨i,ss,rfl,hi,rfl,hF,hM,hU⟩:=hrel
  by_cases hlt:i<K.roots.length
  ·obtain ⟨f,hf⟩ : ∃ f,K.roots[i]?=some f:=⟨_,List.getElem?_eq_getElem hlt⟩
   obtain ⟨gr,rfl⟩:=row_some HR.out (by omega);have hgr:=HR.out.lt gr rfl;have hgm:=HM3.out.row.lt g rfl
   have hne:gr≠g:=by
    omega
   have hrow:=row_keep HR.out fun k hk=>hU.block k (HR.out.lt k hk).2 (by simp [Value.ownBlock] at hk;subst hk;simpa using hne)
   have cf:=row_cell hrow (j:=i) (u:=.int .u32 f) (by simp [flatRefs,hf]);have htk:K.A.tk f=true:=(HK.out.ok.wf.ht f (KV.mem_roots.1 (List.mem_of_getElem? hf))).2
   have hil:(i:Int)<(K.roots.length:Int):=by omega
   have HMi:=Lib.hid (And.intro hM (And.intro hU (And.intro hF hf)));clear hM hU hF hf hrow;go_wp2_with fail;refine (support_spec b f K T q wr (HK.out.upd HMi.out.1.up (by simp)) htk).mono ?_;rintro e w4 hQ;obtain ⟨N,hN,rfl,hk4,hu4⟩:=hQ.ex;have HS:Hid (SupIs K f (N.foldl (fun s x=>supStep s (K.vof x)) 0)):=⟨N,hN,rfl⟩;generalize N.foldl (fun s x=>supStep s (K.vof x)) 0=s at HS;have HM4:=Lib.hid (And.intro (HMi.out.1.keep hu4) (HMi.out.2.1.trans (hu4.mono (by simp)):Upd [g] w3 w4));clear hQ hN hk4 hu4;go_wp2_with fail
   go_loopg [29] K.vars (fun gg s29 wr2=>∃ v:Nat,K.vars-v=gg/\v<=K.vars/\s29=.int .i64 v/\MatR w1 g K.vars ((List.range v).foldl (matUpd s) (ss.foldl (matRow K.vars) (List.replicate K.vars 0))) wr2/\Upd [g] w3 wr2)
   case atStart=>exact ⟨0,by omega,by omega,rfl,HM4.out.1,HM4.out.2⟩
   case round =>
    obtain ⟨v,rfl,hv,rfl,hMv,hUv⟩:=hrel
    by_cases hvt:v<K.vars
    ·have hvi:(v:Int)<(K.vars:Int):=by omega
     have hv64:v<64:=by omega
     generalize hMM:(List.range v).foldl (matUpd s) (ss.foldl (matRow K.vars) (List.replicate K.vars 0))=MM at hMv;have hmg:∃ x,MM[v]?=some x:=⟨_,List.getElem?_eq_getElem (by rw [hMv.len];exact hvt)⟩;obtain ⟨x,hx⟩:=hmg;have cx:=row_cell hMv.row (j:=v) (u:=.int .u64 x) (by simp [flatU,hx]);have fx:=row_frozen hMv.row v;have HMV:=Lib.hid (And.intro hMv (And.intro hUv (And.intro hMM hx)));clear hMv hUv hMM hx
     cases hbt:(bits BinOp.and IntKind.u64 (s/2 ^ v) 1 == 1) with
     | true =>
      have HN:Hid ((List.range (v+1)).foldl (matUpd s) (ss.foldl (matRow K.vars) (List.replicate K.vars 0))=MM.set v (orNotT x s v)):=by
       show _=_
       rw [List.range_succ,List.foldl_append,HMV.out.2.2.1]
       simp only [List.foldl_cons,List.foldl_nil,matUpd]
       rw [show bitT s v=true from hbt,if_pos rfl,List.getD_eq_getElem?_getD,HMV.out.2.2.2];rfl
      go_wp2_with fail
      go_region
      go_wp2_with fail
      go_roundg (K.vars-(v+1))
      case measure=>omega
      case rel =>
       refine ⟨v+1,rfl,by omega,by simp,?_,?_⟩
       ·rw [HN.out]
        exact (HMV.out.1.set hvt (orNotT x s v)).keep ((Upd.refl [] _).drew)
       ·exact (HMV.out.2.1.setCell (p:=⟨g,v,none⟩) (.inl (by simp)) _).drew
     | false =>
      have HN:Hid ((List.range (v+1)).foldl (matUpd s) (ss.foldl (matRow K.vars) (List.replicate K.vars 0))=MM):=by
       show _=_
       rw [List.range_succ,List.foldl_append,HMV.out.2.2.1]
       simp only [List.foldl_cons,List.foldl_nil,matUpd]
       rw [show bitT s v=false from hbt];rfl
      go_wp2_with fail
      go_roundg (K.vars-(v+1))
      case measure=>omega
      case rel=>exact ⟨v+1,rfl,by omega,by simp,by rw [HN.out];exact HMV.out.1,HMV.out.2.1⟩
    ·obtain rfl:v=K.vars:=by omega
     have hvi:¬ ((K.vars:Int)<(K.vars:Int)):=by omega
     have HE:=Lib.hid (And.intro hMv (And.intro hUv (HMi.out.2.2.1.snoc HS.out)));clear hMv hUv;go_wp2_with fail
     go_roundg (K.roots.length-(i+1))
     case measure=>omega
     case rel =>
      refine ⟨i+1,ss++[s],rfl,by omega,by simp,?_,?_,HE.out.2.1⟩
      ·rw [List.take_add_one,HMi.out.2.2.2];exact HE.out.2.2
      ·rw [List.foldl_append];exact HE.out.1
  ·obtain rfl:i=K.roots.length:=by omega
   have hil:¬ ((K.roots.length:Int)<(K.roots.length:Int)):=by omega
   rw [List.take_length] at hF;have HE:=Lib.hid (And.intro hF hM);clear hF hM hU;go_wp2_with fail;go_ret;exact ⟨g,rfl,ss,HE.out⟩
theorem Tryz.infoRefF:(Tryz.prog.info? 54).map (fun i=>(i.zero,i.size,i.bytes))=some (some (.int .u32 0),1,4):=by kernel_rfl
def KV.vr (K:KV) (r:Nat):Int:=match K.A.list[r]? with | some p=>p.var | none=>-1
theorem KV.vr_at {K:KV} {r:Nat} {p:PlaceV} (h:K.A.list[r]?=some p):K.vr r=p.var:=by simp [KV.vr,h]
theorem KV.Wf.const_var {K:KV} {P:List Nat} (h:K.Wf P) {r:Nat} {p:PlaceV} (h2:r<2) (hp:K.A.list[r]?=some p):p.var=-1:=by
 match r,h2 with
 | 0,_=>rw [h.ok.c0] at hp;cases hp;rfl
 | 1,_=>rw [h.ok.c1] at hp;cases hp;rfl
def KV.FreeN (K:KV) (u x:Int) (p:PlaceV):Prop:=¬ (p.var=u/\(K.vr p.lo=x\/K.vr p.hi=x))
def KV.FreeUV (K:KV) (u x:Int):Prop:=∀ (r:Nat) (p:PlaceV),2<=r->K.A.list[r]?=some p->p.taken=true->K.FreeN u x p
structure FreeI (K:KV) (u x:Int) (Td:List Nat) (i:Nat) (V:List Nat):Prop where
 il:i<=Td.length
 tk:∀ r,r∈Td->K.A.tk r=true
 rt:∀ r,r∈K.roots->r∈Td
 vt:∀ r,r∈V↔r∈Td.take i
 nd:V.Nodup
 ln:Td.length<=K.roots.length+2*V.length
 kid:∀ (r:Nat) (p:PlaceV),r∈V->2<=r->K.A.list[r]?=some p->p.lo∈Td/\p.hi∈Td
 ok:∀ (r:Nat) (p:PlaceV),r∈V->2<=r->K.A.list[r]?=some p->K.FreeN u x p
theorem FreeI.start {K:KV} {u x:Int} (h:∀ r,r∈K.roots->K.A.tk r=true):FreeI K u x K.roots 0 [] :=
 ⟨by omega,h,fun r h=>h,fun r=>by simp,by simp,by simp,fun r p h=>by simp at h,fun r p h=>by simp at h⟩
theorem FreeI.vlen {K:KV} {u x:Int} {Td V:List Nat} {i:Nat} (h:FreeI K u x Td i V) (hw:K.Wf []):V.length<=1048576:=by
 have h1:=K.used_ge hw h.nd fun r hr=>h.tk r (List.mem_of_mem_take ((h.vt r).1 hr))
 have h2:=hw.ok.us;have h3:=hw.ok.lp;have h4:=hw.ok.pm;omega
theorem FreeI.skip {K:KV} {u x:Int} {Td V:List Nat} {i r:Nat} (h:FreeI K u x Td i V) (hr:Td[i]?=some r) (hin:r∈V):FreeI K u x Td (i+1) V:=by
 have hi:i<Td.length:=by
  by_cases h:i<Td.length
  ·exact h
  ·rw [List.getElem?_eq_none (by omega)] at hr;cases hr
 refine ⟨hi,h.tk,h.rt,fun s=>?_,h.nd,h.ln,h.kid,h.ok⟩;rw [List.take_add_one,hr,h.vt]
 simp only [Option.toList_some,List.mem_append,List.mem_singleton]
 refine ⟨.inl,?_⟩;rintro (h1 | rfl)
 ·exact h1
 ·exact (h.vt s).1 hin
theorem FreeI.const {K:KV} {u x:Int} {Td V:List Nat} {i r:Nat} (h:FreeI K u x Td i V) (hr:Td[i]?=some r) (hin:r∉V) (h2:r<2):FreeI K u x Td (i+1) (V++[r]):=by
 have hi:i<Td.length:=by
  by_cases h:i<Td.length
  ·exact h
  ·rw [List.getElem?_eq_none (by omega)] at hr;cases hr
 refine ⟨hi,h.tk,h.rt,fun s=>?_,?_,by have:=h.ln;simp;omega,fun s p hs hs2=>?_,fun s p hs hs2=>?_⟩
 ·rw [List.take_add_one,hr,List.mem_append,h.vt]
  simp
 ·rw [List.nodup_append]
  refine ⟨h.nd,by simp,fun a ha c hc=>?_⟩
  simp at hc;subst hc
  rintro rfl;exact hin ha
 ·simp at hs;rcases hs with hs | rfl
  ·exact h.kid s p hs hs2
  ·omega
 ·simp at hs;rcases hs with hs | rfl
  ·exact h.ok s p hs hs2
  ·omega
theorem FreeI.node {K:KV} {u x:Int} {Td V:List Nat} {i r:Nat} {p:PlaceV} (h:FreeI K u x Td i V) (hr:Td[i]?=some r) (hin:r∉V) (hp:K.A.list[r]?=some p) (t0:K.A.tk p.lo=true) (t1:K.A.tk p.hi=true) (hF:K.FreeN u x p) :
  FreeI K u x (Td++[p.lo,p.hi]) (i+1) (V++[r]):=by
 have hi:i<Td.length:=by
  by_cases h:i<Td.length
  ·exact h
  ·rw [List.getElem?_eq_none (by omega)] at hr;cases hr
 refine ⟨by simp;omega,fun s hs=>?_,fun s hs=>by simp [h.rt s hs],fun s=>?_,?_,by have:=h.ln;simp;omega,fun s c hs hs2 hc=>?_,fun s c hs hs2 hc=>?_⟩
 ·simp at hs;rcases hs with hs | rfl | rfl
  ·exact h.tk s hs
  ·exact t0
  ·exact t1
 ·rw [List.take_append_of_le_length (by omega),List.take_add_one,hr,List.mem_append,h.vt]
  simp
 ·rw [List.nodup_append]
  refine ⟨h.nd,by simp,fun a ha c hc=>?_⟩
  simp at hc;subst hc
  rintro rfl;exact hin ha
 ·simp at hs;rcases hs with hs | rfl
  ·have:=h.kid s c hs hs2 hc
   exact ⟨by simp [this.1],by simp [this.2]⟩
  ·rw [hp] at hc;cases hc
   exact ⟨by simp,by simp⟩
 ·simp at hs;rcases hs with hs | rfl
  ·exact h.ok s c hs hs2 hc
  ·rw [hp] at hc;cases hc
   exact hF
theorem FreeI.done {K:KV} {u x:Int} {Td V:List Nat} (hk:K.Ok) (h:FreeI K u x Td Td.length V):K.FreeUV u x:=by
 have hv:∀ r,K.Reach r->r∈V:=by
  intro r hr
  induction hr with
  | root hh=>exact (h.vt _).2 (by rw [List.take_length];exact h.rt _ (KV.mem_roots.2 hh))
  | lo _ h2 hp _ ih=>exact (h.vt _).2 (by rw [List.take_length];exact (h.kid _ _ ih h2 hp).1)
  | hi _ h2 hp _ ih=>exact (h.vt _).2 (by rw [List.take_length];exact (h.kid _ _ ih h2 hp).2)
 intro r p h2 hp hpt
 exact h.ok r p (hv r (KV.live_reach hk.wf hk.pos hk.ord _ r h2 (ArenaV.tk_iff.2 ⟨p,hp,hpt⟩) (Nat.le_refl _))) h2 hp
structure SeenF (V:List Nat) (D:DM):Prop where
 im:IsMap D
 has:∀ r:Nat,r<=4294967295->(Maps.has D (.int .u32 r)=true↔r∈V)
 dom:∀ k,Maps.has D k=true->∃ r:Nat,k=.int .u32 r/\r<1048576
theorem SeenF.nil:SeenF [] (.map []):=⟨isMap_empty,fun r _=>by simp [Maps.has],fun k h=>by simp [Maps.has] at h⟩
theorem SeenF.put {V:List Nat} {D:DM} {r:Nat} (h:SeenF V D) (hr:r<1048576) (d:DM):SeenF (V++[r]) (D.put (.int .u32 r) d):=by
 have hl:WideAt.IsKeyLit (.int .u32 (r:Int)):=trivial
 have inj:∀ x:Nat,x≠r->(Lit.int .u32 (x:Int))≠.int .u32 (r:Int):=fun x hx e=>hx (by simp at e;omega)
 refine ⟨h.im.put _ _,fun x hx=>?_,fun k hk=>?_⟩
 ·by_cases e:x=r
  ·subst e;simp [has_put_same h.im hl]
  ·rw [has_put_other (inj x e),h.has x hx];simp [e]
 ·by_cases e:k=.int .u32 (r:Int)
  ·exact ⟨r,e,hr⟩
  ·rw [has_put_other e] at hk;exact h.dom k hk
theorem seenF_size {V:List Nat} {D:DM} (h:SeenF V D) (hc:Maps.Canon D) (ht:Tidy D):Maps.size D<maxLen:=by
 have:=size_le_keys hc (ks:=(List.range 1048576).map fun (r:Nat)=>Lit.int .u32 (r:Int)) (fun k hk=>by
  obtain ⟨r,rfl,hr⟩:=h.dom k hk
  exact List.mem_map.2 ⟨r,List.mem_range.2 hr,rfl⟩) ht
 simp only [List.length_map,List.length_range] at this
 unfold maxLen;omega
structure FreeQ (K:KV) (u x:Int) (w:World) (e:Ending) (w':World):Prop where
 ex:∃ B:Bool,e=.returned (.tuple #[.bool B,.int .i64 0])/\(B=true↔K.FreeUV u x)/\Upd [] w w'
structure FreeM (b base mb:Nat) (K:KV) (T:List DM) (q:KPtr) (w:World) (s:Value) (Td V:List Nat) (wr:World):Prop where
 row:wr.ownsRow base 54 1 s Td.length (flatRefs Td)
 map:∃ D:DM,SeenF V D/\wr.ownsMap Tryz.prog 54 (plainElem Tryz.prog 3) mb (Maps.size D) D
 up:Upd [] w wr
 ker:KerIn wr b K T q
 bm:mb<base
 bw:w.heap.size<=mb
theorem FreeM.keep {b base mb:Nat} {K:KV} {T:List DM} {q:KPtr} {w:World} {s:Value} {Td V:List Nat} {wr w2:World} (h:FreeM b base mb K T q w s Td V wr) (u:Upd [] wr w2):FreeM b base mb K T q w s Td V w2:=by
 obtain ⟨D,hS,hm⟩:=h.map;exact ⟨row_keep h.row fun k hk=>u.block k (h.row.lt k hk).2 (by simp),⟨D,hS,own_keep hm (u.block _ hm.lt (by simp))⟩,h.up.trans u,h.ker.upd u (by simp),h.bm,h.bw⟩
theorem free_spec (b l:Nat) (K:KV) (T:List DM) (q:KPtr) (w:World) (h:KerIn w b K T q) (hl:l+2<=K.vars) (u x:Nat) (hu:K.order.getD l 0=u) (hx:K.order.getD (l+1) 0=x) :
  Calls Tryz.prog 59 #[.pointer (some ⟨b,0,none⟩),.int .i64 l] w fun e w'=>FreeQ K u x w e w':=by
 obtain ⟨ti,hi0,hz0,hz1',hz2⟩:=info_parts Tryz.infoRefF;have HI:=Lib.hid (And.intro hi0 (And.intro hz0 (And.intro hz1' hz2)));have HK:=Lib.hid h;have hol:=h.ok.ord.pm.ol;have hvs:=h.ok.wf.vs;clear h hi0 hz0 hz1' hz2
 go_enter Tryz.func59,Tryz.ntmps59
 go_wp2_with fail;refine (order_spec b K T q w HK.out.mem (by omega) (by omega)).mono ?_;rintro e w1 ⟨go,gc,rfl,hor,hu1⟩;rw [hol]
 have hd1:decide ((l:Int)<0)=false:=by simp
 have hd2:¬ ((l:Int)<0):=by omega
 have hd3:¬ ((K.vars:Int)-2<(l:Int)):=by omega
 have hd4:IntKind.i64.wrap ((K.vars:Int)-2)=(K.vars:Int)-2:=IntWalk.i64_in _ (by omega);have hd5:IntKind.i64.wrap ((l:Int)+1)=(l:Int)+1:=IntWalk.i64_in _ (by omega)
 have hd6:(l:Int)<(K.vars:Int):=by omega
 have hd7:(l:Int)+1<(K.vars:Int):=by omega
 have hd8:0<=(l:Int)+1:=by omega
 have co0:=row_cell hor (j:=l) (u:=.int .i64 u) (by simp [flatN,<- hu,List.getElem?_eq_getElem (show l<K.order.length by omega)]);have co1:=row_cell hor (j:=l+1) (u:=.int .i64 x) (by simp [flatN,<- hx,List.getElem?_eq_getElem (show l+1<K.order.length by omega)]);have HU1:=Lib.hid hu1;clear hor hu1;go_wp2_with fail
 go_region
 have hmm:=@run_makeMap Tryz.prog;have HUM:=Lib.hid ((HU1.out.drew).alloc (.map #[] 0));have HMP:=own_emptyR (heap_alloc_new w1.drew (.map #[] 0));have hms:=HU1.out.size;go_wp2_with fail;refine (roots_spec b K T q _ (HK.out.upd HUM.out (by simp))).mono ?_;rintro e w3 ⟨lv,rfl,hr3,hu3⟩;obtain ⟨fa,fc,rfl,_⟩:=row_nil_len hr3;obtain ⟨mb,hmb⟩ : ∃ mb,w1.heap.size=mb:=⟨_,rfl⟩
 have hbase:(w1.drew.alloc (.map #[] 0)).heap.size=mb+1:=by rw [World.size_alloc,<- hmb];rfl
 rw [hbase] at hr3;have hmd:w1.drew.heap.size=mb:=hmb;rw [hmd] at HMP
 have HM3:Hid (FreeM b (mb+1) mb K T q w (.slice fa K.roots.length fc) K.roots [] w3) :=
  ⟨hr3,⟨_,SeenF.nil,own_keep HMP (hu3.block _ HMP.lt (by simp))⟩,HUM.out.trans hu3,HK.out.upd (HUM.out.trans hu3) (by simp),by omega,by omega⟩
 have HF3:Hid (FreeI K u x K.roots 0 []):=FreeI.start fun r hr=>(HK.out.ok.wf.ht r (KV.mem_roots.1 hr)).2
 have hrl:K.roots.length<=1048576:=by
  have h1:=HK.out.ok.wf.len;have h2:=HK.out.ok.wf.ul;have h3:=HK.out.ok.wf.ok.lp;have h4:=HK.out.ok.wf.ok.pm;have h5:=K.rootsI_len K.holds.length
  show (K.rootsI _).length<=_
  omega
 clear hr3 hu3 HMP HUM hms co0 co1 hd1 hd2 hd3 hd4 hd5 hd6 hd7 hd8 HU1 hbase;rw [hmb];clear hmd hmb;go_wp2_with fail
 go_loopg [10,11] (3*1048576+K.roots.length) (fun gg s10 s11 wr=>∃ (Td V:List Nat) (i:Nat),3*(1048576-V.length)+(Td.length-i)=gg/\s11=.int .i64 i/\FreeI K u x Td i V/\FreeM b (mb+1) mb K T q w s10 Td V wr)
 case atStart=>exact ⟨K.roots,[],0,by simp,rfl,HF3.out,HM3.out⟩
 case round =>
  obtain ⟨Td,V,i,rfl,rfl,hF,hM⟩:=hrel;have hvl:=hF.vlen HK.out.ok.wf;have htl:=hF.ln;obtain ⟨fa,fc,hv,_⟩:=row_nil_len hM.row;subst hv
  by_cases hlt:i<Td.length
  ·have hil:(i:Int)<(Td.length:Int):=by omega
   obtain ⟨r,hr⟩ : ∃ r,Td[i]?=some r:=⟨_,List.getElem?_eq_getElem hlt⟩;have htk:=hF.tk r (List.mem_of_getElem? hr);have hrl:=HK.out.ok.ref_lt htk
   have hr32:r<=4294967295:=by omega
   obtain ⟨gr,rfl⟩:=row_some hM.row (by omega);have cr:=row_cell hM.row (j:=i) (u:=.int .u32 r) (by simp [flatRefs,hr]);obtain ⟨D,hS,hmap⟩:=hM.map;obtain ⟨v,ps,hrun,hvv⟩:=hmap.look_ok refKeyed Tryz.underlying212 (zeroInt wr) (plainElem_int Tryz.underlying3 (by decide)) (keyOf_int_mk Tryz.underlying54 (wfR hr32))
   by_cases hin:r∈V
   ·rw [(hS.has r hr32).2 hin] at hrun
    have HE:=Lib.hid (And.intro (hF.skip hr hin) hM);clear hF hM hS hmap hvv hr htk hin;go_wp2_with fail
    go_roundg (3*(1048576-V.length)+(Td.length-(i+1)))
    case measure=>omega
    case rel=>exact ⟨Td,V,i+1,rfl,by simp,HE.out⟩
   ·have hno:Maps.has D (.int .u32 r)=false:=by
     cases e:Maps.has D (.int .u32 r) with
     | false=>rfl
     | true=>exact absurd ((hS.has r hr32).1 e) hin
    rw [hno] at hrun;have hsz:=seenF_size hS (hmap.canon refKeyed) (hmap.tidy refKeyed);obtain ⟨w9,hrun9,hown,hturn⟩:=hmap.store refKeyed Tryz.underlying212 hsz (keyOf_int_mk Tryz.underlying54 (wfR hr32)) (plainElem_int (H:=Unit) Tryz.underlying3 (wfI (n:=i) (by omega) (by omega)));have hu9:=upd_turned hturn;obtain ⟨p,hp,hpt⟩:=ArenaV.tk_iff.1 htk
    have hM9:Hid (FreeM b (mb+1) mb K T q w (.slice (some ⟨gr,0,none⟩) Td.length fc) Td (V++[r]) w9):=by
     have hu:Upd [] w w9:=hM.up.then hu9 fun k hk=>by simp at hk;subst hk;right;exact hM.bw
     have hbq:∀ k,k∈q.all b->k∉[mb]:=fun k hk hm=>by
      simp at hm;subst hm
      have:=HK.out.mem.lt _ hk;have:=hM.bw;omega
     refine ⟨row_keep hM.row fun k hk=>hu9.block k (hM.row.lt k hk).2 ?_,⟨_,hS.put hrl _,own_tight hown⟩,hu,hM.ker.upd hu9 hbq,hM.bm,hM.bw⟩;have:=(hM.row.lt k hk).1
     simp;omega
    have HP:=Lib.hid (And.intro hp (And.intro hpt (And.intro hF hr)));clear hF hM hS hmap hvv htk hown hturn hu9 hsz hno hp hpt;go_wp2_with fail;refine (nodeof_yes b r K T q p w9 hM9.out.ker.mem hr32 HP.out.1 HP.out.2.1).mono ?_;rintro e w10 ⟨rfl,hu10⟩;have hbx:=heap_alloc_new w10 (.cells #[.int .i64 p.var,.int .u32 p.lo,.int .u32 p.hi] 115 (0,0));have x0:=cell_at (j:=0) hbx rfl;have x1:=cell_at (j:=1) hbx rfl;have x2:=cell_at (j:=2) hbx rfl;have HM10:=Lib.hid ((hM9.out.keep hu10).keep ((Upd.refl [] w10).alloc (.cells #[.int .i64 p.var,.int .u32 p.lo,.int .u32 p.hi] 115 (0,0))))
    by_cases h2:r<2
    ·have hpv:p.var=-1:=HK.out.ok.wf.const_var h2 HP.out.1
     have HE:=Lib.hid (And.intro (HP.out.2.2.1.const HP.out.2.2.2 hin h2) HM10.out);generalize p.var=pv at *;subst hpv;clear hu10 HM10 hM9;go_wp2_with fail
     go_roundg (3*(1048576-(V++[r]).length)+(Td.length-(i+1)))
     case measure=>simp;omega
     case rel=>exact ⟨Td,V++[r],i+1,rfl,by simp,HE.out⟩
    ·have hcl:=HK.out.ok.wf.cl r p (by omega) HP.out.1 HP.out.2.1
     have hvr:=HK.out.ok.wf.vr r p (by omega) HP.out.1 HP.out.2.1
     have hd1:decide (p.var<0)=false:=by simp;omega
     have hd2:¬ (p.var<0):=by omega
     have hns:=heap_alloc_new (w10.alloc (.cells #[.int .i64 p.var,.int .u32 p.lo,.int .u32 p.hi] 115 (0,0))) (.cells #[.int .u32 p.lo,.int .u32 p.hi] 54 (0,0));rw [World.size_alloc] at hns;have hbx2:=(heap_alloc_old _ (.cells #[.int .u32 p.lo,.int .u32 p.hi] 54 (0,0)) (heap_lt hbx)).trans hbx;have HB:=Lib.hid (And.intro hbx2 hns);have HM11:=Lib.hid (HM10.out.keep ((Upd.refl [] _).alloc (.cells #[.int .u32 p.lo,.int .u32 p.hi] 54 (0,0))));have HCL:=Lib.hid (And.intro hcl hvr);clear hu10 HM10 hM9 hns hbx2 hbx hcl hvr cr hrun hrun9;go_wp2_with fail
     go_loopg [81] 2 (fun gg s81 wr2=>∃ j:Nat,2-j=gg/\j<=2/\s81=.int .i64 j/\(∀ (j' c:Nat),j'<j->[p.lo,p.hi][j']?=some c->¬ (p.var=u/\K.vr c=x))/\FreeM b (mb+1) mb K T q w (.slice (some ⟨gr,0,none⟩) Td.length fc) Td (V++[r]) wr2/\Upd [] ((w10.alloc (.cells #[.int .i64 p.var,.int .u32 p.lo,.int .u32 p.hi] 115 (0,0))).alloc (.cells #[.int .u32 p.lo,.int .u32 p.hi] 54 (0,0))) wr2)
     case atStart=>exact ⟨0,by omega,by omega,rfl,fun j' c hj=>by omega,HM11.out,Upd.refl _ _⟩
     case round =>
      obtain ⟨j,rfl,hj2,rfl,hno,hMj,hUj⟩:=hrel;have ebx:=(hUj.block _ (heap_lt HB.out.1) (by simp)).trans HB.out.1;have ens:=(hUj.block _ (heap_lt HB.out.2) (by simp)).trans HB.out.2;have y0:=cell_at (j:=0) ebx rfl
      by_cases hj:j<2
      ·have hjl:(j:Int)<2:=by omega
       obtain ⟨c,hc⟩ : ∃ c,[p.lo,p.hi][j]?=some c:=⟨_,List.getElem?_eq_getElem (show j < [p.lo,p.hi].length by simpa using hj)⟩
       have hcc:c=p.lo\/c=p.hi:=by
        have:=List.mem_of_getElem? hc
        simpa using this
       have htc:K.A.tk c=true:=by
        rcases hcc with rfl | rfl
        ·exact HCL.out.1.1
        ·exact HCL.out.1.2
       have hcl:=HK.out.ok.ref_lt htc;obtain ⟨pc,hpc,hpct⟩:=ArenaV.tk_iff.1 htc
       have z0:wr.cell? ⟨w10.heap.size+1,j,none⟩=some (.int .u32 c):=cell_at ens (by
        rcases j with _ | _ | j
        ·simp at hc;subst hc;rfl
        ·simp at hc;subst hc;rfl
        ·omega)
       have HJ:=Lib.hid (And.intro hno (And.intro hMj (And.intro hUj (And.intro ebx (And.intro hc (And.intro hpc hpct))))));have HCC:=Lib.hid hcc;clear hno hMj hUj ebx ens hc hpc hpct hcc htc;go_wp2_with fail;refine (nodeof_yes b c K T q pc wr HJ.out.2.1.ker.mem (by omega) HJ.out.2.2.2.2.2.1 HJ.out.2.2.2.2.2.2).mono ?_;rintro e w12 ⟨rfl,hu12⟩;have hbc:=heap_alloc_new w12 (.cells #[.int .i64 pc.var,.int .u32 pc.lo,.int .u32 pc.hi] 115 (0,0));have v0:=cell_at (j:=0) hbc rfl;have ebx3:=(hu12.block _ (heap_lt HJ.out.2.2.2.1) (by simp)).trans HJ.out.2.2.2.1;have ebx4:=(heap_alloc_old _ (.cells #[.int .i64 pc.var,.int .u32 pc.lo,.int .u32 pc.hi] 115 (0,0)) (heap_lt ebx3)).trans ebx3;have y4:=cell_at (j:=0) ebx4 rfl;have HU12:=Lib.hid (hu12.alloc (.cells #[.int .i64 pc.var,.int .u32 pc.lo,.int .u32 pc.hi] 115 (0,0)));have HV:Hid (K.vr c=pc.var):=KV.vr_at HJ.out.2.2.2.2.2.1;clear hu12 hbc ebx3 ebx4 y0 z0
       by_cases hpu:p.var=u
       ·have hb1:(p.var == (u:Int))=true:=by simpa using hpu
        by_cases hcx:pc.var=x
        ·have hb2:(pc.var == (x:Int))=true:=by simpa using hcx
         have HE:Hid (¬ K.FreeUV u x/\Upd [] w _):=⟨fun h=>h r p (by omega) HP.out.1 HP.out.2.1 ⟨hpu,by rcases HCC.out with e | e <;> rw [<- e,HV.out] <;> simp [hcx]⟩,HJ.out.2.1.up.trans HU12.out⟩;clear hpu hcx;go_wp2_with fail;go_ret2;exact ⟨false,rfl,by simpa using HE.out.1,HE.out.2⟩
        ·have hb2:(pc.var == (x:Int))=false:=by simpa using hcx
         have HE:Hid (∀ (j' c:Nat),j'<j+1->[p.lo,p.hi][j']?=some c->¬ (p.var=u/\K.vr c=x)):=by
          intro j' c' hj' hc' hh
          by_cases h:j'<j
          ·exact HJ.out.1 j' c' h hc' hh
          ·obtain rfl:j'=j:=by omega
           rw [HJ.out.2.2.2.2.1] at hc';cases hc'
           exact hcx (by rw [<- HV.out];exact hh.2)
         clear hpu hcx;go_wp2_with fail
         go_roundg (2-(j+1))
         case measure=>omega
         case rel=>exact ⟨j+1,rfl,by omega,by simp,HE.out,HJ.out.2.1.keep HU12.out,HJ.out.2.2.1.trans HU12.out⟩
       ·have hb1:(p.var == (u:Int))=false:=by simpa using hpu
        have HE:Hid (∀ (j' c:Nat),j'<j+1->[p.lo,p.hi][j']?=some c->¬ (p.var=u/\K.vr c=x)):=fun j' c' hj' hc' hh=>hpu hh.1
        clear hpu;go_wp2_with fail
        go_roundg (2-(j+1))
        case measure=>omega
        case rel=>exact ⟨j+1,rfl,by omega,by simp,HE.out,HJ.out.2.1.keep HU12.out,HJ.out.2.2.1.trans HU12.out⟩
      ·obtain rfl:j=2:=by omega
       have y1:=cell_at (j:=1) ebx rfl;have y2:=cell_at (j:=2) ebx rfl
       have HJ:Hid (FreeI K u x (Td++[p.lo,p.hi]) (i+1) (V++[r])):=by
        refine HP.out.2.2.1.node HP.out.2.2.2 hin HP.out.1 HCL.out.1.1 HCL.out.1.2 ?_;rintro ⟨h1,h2 | h2⟩
        ·exact hno 0 _ (by omega) rfl ⟨h1,h2⟩
        ·exact hno 1 _ (by omega) rfl ⟨h1,h2⟩
       have HMJ:=Lib.hid hMj
       have HC2:Hid (∀ u,u∈[Value.int .u32 p.lo,Value.int .u32 p.hi]->u.oneCell'=true):=by
        intro u hu;simp at hu;rcases hu with rfl | rfl <;> rfl
       have hbs:mb+1<=(wr.alloc (.cells #[.int .u32 p.lo,.int .u32 p.hi] 54 (0,0))).heap.size:=by
        have:=(hMj.row.lt gr rfl)
        rw [World.size_alloc];omega
       clear hno hMj hUj ebx ens
       go_wp2_with (at_builtin;go_must (refine wpList_append_lies _ rfl (.tmp 102) (.tmp 107) 28 rfl (mb+1) 54 ti _ 1 4 Tryz.underlying28 HI.out.1 HI.out.2.1 HI.out.2.2.1 HI.out.2.2.2 (by rfl) (by decide) _ Td.length (flatRefs Td) rfl (HMJ.out.row.alloc _) ⟨wr.heap.size,0,none⟩ 2 2 [.int .u32 p.lo,.int .u32 p.hi] rfl rfl ?c1 HC2.out (by omega) (by unfold maxLen;omega) (by omega) hbs _ rfl ?_))
       case c1=>exact World.news_of_block (heap_alloc_new wr (.cells #[.int .u32 p.lo,.int .u32 p.hi] 54 (0,0)))
       intro g5 cap w5 hown hgr hat hlt5
       have HE:Hid (FreeM b (mb+1) mb K T q w (.slice (some ⟨g5,0,none⟩) (Td.length+2) cap) (Td++[p.lo,p.hi]) (V++[r]) w5):=by
        have hgl:=HMJ.out.row.lt gr rfl
        have hu5:Upd [gr] wr w5:=((Upd.refl [gr] wr).alloc _).grown hgr fun k hk=>.inl (by simp [Value.ownBlock] at hk;simp [hk])
        obtain ⟨D5,hS5,hm5⟩:=HMJ.out.map;have hbw:=HMJ.out.bw;refine ⟨by simpa [flatRefs] using hown,⟨D5,hS5,own_keep hm5 (hu5.block _ hm5.lt (by simp;omega))⟩,HMJ.out.up.then hu5 fun k hk=>?_,HMJ.out.ker.upd hu5 fun k hk hm=>?_,HMJ.out.bm,HMJ.out.bw⟩
        ·simp at hk;subst hk;right;omega
        ·simp at hm;subst hm
         have:=HK.out.mem.lt _ hk;omega
       have hvl2:=HJ.out.vlen HK.out.ok.wf;rw [List.length_append,List.length_singleton] at hvl2;clear hown hgr hat hlt5;go_wp2_with fail
       go_roundg (3*(1048576-(V++[r]).length)+((Td++[p.lo,p.hi]).length-(i+1)))
       case measure=>simp;omega
       case rel=>exact ⟨Td++[p.lo,p.hi],V++[r],i+1,rfl,by simp,HJ.out,by simpa using HE.out⟩
  ·obtain rfl:i=Td.length:=by have:=hF.il;omega
   have hil:¬ ((Td.length:Int)<(Td.length:Int)):=by omega
   have HE:Hid (K.FreeUV u x/\Upd [] w wr):=⟨hF.done HK.out.ok,hM.up⟩;clear hF hM;go_wp2_with fail;go_ret2;exact ⟨true,rfl,by simpa using HE.out.1,HE.out.2⟩
def U64 (x:Int):Prop:=0<=x/\x<18446744073709551616
theorem wrap_u64 (n:Int):U64 (IntKind.u64.wrap n):=by
 have e:IntKind.u64.wrap n=n % 18446744073709551616:=rfl
 rw [e];unfold U64;omega
theorem bits_u64 (op:BinOp) (x y:Int):U64 (bits op IntKind.u64 x y):=wrap_u64 _
theorem bv_or_grow (A B:BitVec 64):A.toNat<=(A ||| B).toNat/\((B &&& ~~~A).toNat≠0->A.toNat<(A ||| B).toNat):=by
 have h1:A.toNat<=(A ||| B).toNat:=by rw [BitVec.toNat_or];exact Nat.left_le_or
 refine ⟨h1,fun h=>?_⟩
 by_cases e:A.toNat=(A ||| B).toNat
 ·exfalso
  apply h
  have e2:=BitVec.eq_of_toNat_eq e
  have:B &&& ~~~A=0#64:=by
   apply BitVec.eq_of_getLsbD_eq
   intro i hi
   have:A.getLsbD i=(A ||| B).getLsbD i:=congrArg (fun z=>BitVec.getLsbD z i) e2;rw [BitVec.getLsbD_or] at this;rw [BitVec.getLsbD_and,BitVec.getLsbD_not,BitVec.getLsbD_zero,decide_eq_true hi]
   revert this
   cases A.getLsbD i <;> cases B.getLsbD i <;> intro this <;> first | rfl | exact this | cases this
  rw [this];rfl
 ·omega
theorem bits_or_grow (x y:Int) (hx:U64 x):x<=bits BinOp.or IntKind.u64 x y/\(bits BinOp.andNot IntKind.u64 y x≠0->x<bits BinOp.or IntKind.u64 x y):=by
 have hA:((BitVec.ofInt 64 x).toNat:Int)=x:=by
  rw [BitVec.toNat_ofInt];unfold U64 at hx;omega
 have e1:bits BinOp.or IntKind.u64 x y=((BitVec.ofInt 64 x ||| BitVec.ofInt 64 y).toNat:Int) % 18446744073709551616:=rfl;have e2:bits BinOp.andNot IntKind.u64 y x=((BitVec.ofInt 64 y &&& ~~~(BitVec.ofInt 64 x)).toNat:Int) % 18446744073709551616:=rfl;have l1:=(BitVec.ofInt 64 x ||| BitVec.ofInt 64 y).isLt;have l2:=(BitVec.ofInt 64 y &&& ~~~(BitVec.ofInt 64 x)).isLt;obtain ⟨g1,g2⟩:=bv_or_grow (BitVec.ofInt 64 x) (BitVec.ofInt 64 y);rw [e1,e2];refine ⟨by omega,fun h=>?_⟩;have:=g2 (by omega);omega
def growStep (M:List Int) (st:Int × Bool) (w:Nat):Int × Bool:=if bitT st.1 w&&decide (bits BinOp.andNot IntKind.u64 (M.getD w 0) st.1≠0) then (bits BinOp.or IntKind.u64 st.1 (M.getD w 0),true) else st
def sweepTo (M:List Int) (n:Nat) (g:Int):Int × Bool:=(List.range n).foldl (growStep M) (g,false)
theorem sweep_succ (M:List Int) (n:Nat) (g:Int):sweepTo M (n+1) g=growStep M (sweepTo M n g) n:=by
 unfold sweepTo
 rw [List.range_succ,List.foldl_append];rfl
theorem sweep_grow (M:List Int) (n:Nat) (g:Int) (hg:U64 g):U64 (sweepTo M n g).1/\g<=(sweepTo M n g).1/\((sweepTo M n g).2=true->g<(sweepTo M n g).1)/\((sweepTo M n g).2=false->(sweepTo M n g).1=g):=by
 induction n with
 | zero=>exact ⟨hg,Int.le_refl _,fun h=>by simp [sweepTo] at h,fun _=>rfl⟩
 | succ n ih =>
  rw [sweep_succ];generalize sweepTo M n g=st at ih;obtain ⟨h1,h2,h3,h4⟩:=ih;unfold growStep;split
  ·rename_i hc
   simp only [Bool.and_eq_true,decide_eq_true_eq] at hc
   have:=bits_or_grow st.1 (M.getD n 0) h1;have k:=this.2 hc.2;refine ⟨wrap_u64 _,by simp only;omega,fun _=>by simp only;omega,fun h=>by simp at h⟩
  ·exact ⟨h1,h2,h3,h4⟩
inductive Grow (M:List Int) (n:Nat):Int->Int->Prop
 | done {g:Int} (h:(sweepTo M n g).2=false):Grow M n g g
 | more {g g':Int} (h:(sweepTo M n g).2=true) (k:Grow M n (sweepTo M n g).1 g'):Grow M n g g'
inductive GrR (M:List Int) (n:Nat):Nat->Int->List Int->Prop
 | zero:GrR M n 0 0 []
 | skip {v:Nat} {d:Int} {gs:List Int} (h:GrR M n v d gs) (hb:bitT d v=true):GrR M n (v+1) d gs
 | take {v:Nat} {d g:Int} {gs:List Int} (h:GrR M n v d gs) (hb:bitT d v=false) (k:Grow M n (IntKind.u64.wrap (2 ^ v)) g):GrR M n (v+1) (bits BinOp.or IntKind.u64 d g) (gs++[g])
theorem GrR.len {M:List Int} {n v:Nat} {d:Int} {gs:List Int} (h:GrR M n v d gs):gs.length<=v:=by
 induction h with
 | zero=>simp
 | skip _ _ ih=>omega
 | take _ _ _ ih=>simp;omega
structure GroupsQ (K:KV) (w:World) (e:Ending) (w':World):Prop where
 ex:∃ (lv:Value) (ss:List Int) (d:Int) (gs:List Int),e=.returned lv/\SupL K K.roots ss/\GrR (ss.foldl (matRow K.vars) (List.replicate K.vars 0)) K.vars K.vars d gs/\w'.ownsRow w.heap.size 96 1 lv gs.length (flatU gs)/\Upd [] w w'
theorem groups_spec (b:Nat) (K:KV) (T:List DM) (q:KPtr) (w:World) (h:KerIn w b K T q) :
  Calls Tryz.prog 57 #[.pointer (some ⟨b,0,none⟩)] w fun e w'=>GroupsQ K w e w':=by
 obtain ⟨ti,hi2,hz2,hs2,hb2⟩:=info_parts Tryz.infoU64;have HI:=Lib.hid (And.intro hi2 (And.intro hz2 (And.intro hs2 hb2)));have HK:=Lib.hid h;have hvs:=h.ok.wf.vs;clear h hi2 hz2 hs2 hb2
 go_enter Tryz.func57,Tryz.ntmps57
 go_wp2_with fail;refine (matrix_spec b K T q _ HK.out).mono ?_;rintro e w1 ⟨g,ss,rfl,hS,hM⟩;obtain ⟨M,hMM⟩ : ∃ M,ss.foldl (matRow K.vars) (List.replicate K.vars 0)=M:=⟨_,rfl⟩;rw [hMM] at hM;have HM:=Lib.hid (And.intro hM (And.intro hS hMM));have hml:M.length=K.vars:=hM.len;have hgl:=(hM.row.lt g rfl);have hw1:=hM.up.size;clear hM hS hMM;go_wp2_with fail
 go_loopg [4,5,14] K.vars (fun gg s4 s5 s14 wr=>∃ (v:Nat) (d:Int) (gs:List Int),K.vars-v=gg/\v<=K.vars/\s14=.int .i64 v/\s5=.int .u64 d/\GrR M K.vars v d gs/\wr.ownsRow w1.heap.size 96 1 s4 gs.length (flatU gs)/\Upd [] w1 wr)
 case atStart=>exact ⟨0,0,[],by omega,by omega,rfl,rfl,.zero,World.ownsRow_nil _ _ _ _,Upd.refl _ _⟩
 case round =>
  obtain ⟨v,d,gs,rfl,hv,rfl,rfl,hG,ho,hU⟩:=hrel
  by_cases hlt:v<K.vars
  ·have hvi:(v:Int)<(K.vars:Int):=by omega
   have hv64:v<64:=by omega
   cases hbt:(bits BinOp.and IntKind.u64 (d/2 ^ v) 1 == 1) with
   | true =>
    have HE:=Lib.hid (And.intro (hG.skip hbt) (And.intro ho hU));clear hG ho hU;go_wp2_with fail
    go_roundg (K.vars-(v+1))
    case measure=>omega
    case rel=>exact ⟨v+1,d,gs,rfl,by omega,by simp,rfl,HE.out⟩
   | false =>
    have HB:Hid (bitT d v=false):=hbt;have HG:=Lib.hid (And.intro hG (And.intro ho hU));have hsz:=hU.size;clear hG ho hU;go_wp2_with fail;have HW:Hid (U64 (IntKind.u64.wrap (2 ^ v))):=wrap_u64 _;have HZ:Hid (∃ z,IntKind.u64.wrap (2 ^ v)=z):=⟨_,rfl⟩
    go_loopg [7,8] ((18446744073709551616-IntKind.u64.wrap (2 ^ v)).toNat+1) (fun gg s7 s8 wr2=>∃ (gr:Int) (t:Bool),(18446744073709551616-gr).toNat+(if t then 1 else 0)=gg/\s7=.int .u64 gr/\s8=.bool t/\U64 gr/\(t=true->∀ z,Grow M K.vars gr z->Grow M K.vars (IntKind.u64.wrap (2 ^ v)) z)/\(t=false->Grow M K.vars (IntKind.u64.wrap (2 ^ v)) gr)/\wr2=wr)
    case atStart=>exact ⟨_,true,rfl,rfl,rfl,HW.out,fun _ z h=>h,fun h=>(by cases h),rfl⟩
    case round =>
     obtain ⟨gr,t,rfl,rfl,rfl,hu,ht,hf,rfl⟩:=hrel
     cases t with
     | false =>
      have HE:=Lib.hid (hf rfl);have HO:=Lib.hid HG.out.2.1;have hln:=HG.out.1.len;obtain ⟨fa,fc,hfv,_⟩:=row_nil_len HG.out.2.1;subst hfv
      have HC2:Hid (∀ u,u∈[Value.int .u64 gr]->u.oneCell'=true):=by intro u hu;simp at hu;subst hu;rfl
      have hbs:w1.heap.size<=(wr.alloc (.cells #[.int .u64 gr] 96 (0,0))).heap.size:=by rw [World.size_alloc];omega
      clear hu ht hf
      go_wp2_with (at_builtin;go_must (refine wpList_append_lies _ rfl (.tmp 51) (.tmp 53) 23 rfl w1.heap.size 96 ti _ 1 8 Tryz.underlying23 HI.out.1 HI.out.2.1 HI.out.2.2.1 HI.out.2.2.2 (by rfl) (by decide) _ gs.length (flatU gs) rfl (HO.out.alloc _) ⟨wr.heap.size,0,none⟩ 1 1 [.int .u64 gr] rfl rfl ?c1 HC2.out (by omega) (by unfold maxLen;omega) (by omega) hbs _ rfl ?_))
      case c1=>exact World.news_of_block (heap_alloc_new wr (.cells #[.int .u64 gr] 96 (0,0)))
      intro g5 cap w5 hown hgr hat hlt5
      have HX:Hid (w5.ownsRow w1.heap.size 96 1 (.slice (some ⟨g5,0,none⟩) (gs.length+1) cap) (gs++[gr]).length (flatU (gs++[gr]))/\Upd [] w1 w5):=by
       refine ⟨by simpa [flatU] using hown,(HG.out.2.2.alloc _).grown hgr fun k hk=>.inr ?_⟩;exact (HO.out.lt k hk).1
      clear hown hgr hat hlt5;go_wp2_with fail
      go_roundg (K.vars-(v+1))
      case measure=>omega
      case rel=>exact ⟨v+1,_,gs++[gr],rfl,by omega,by simp,rfl,HG.out.1.take HB.out HE.out,HX.out.1,HX.out.2⟩
     | true =>
      have HT:=Lib.hid (And.intro (ht rfl) hu);clear hu ht hf;go_wp2_with fail
      go_loopg [7,8,27] K.vars (fun gg s7 s8 s27 wr3=>∃ j:Nat,K.vars-j=gg/\j<=K.vars/\s27=.int .i64 j/\s7=.int .u64 (sweepTo M j gr).1/\s8=.bool (sweepTo M j gr).2/\wr3=wr)
      case atStart=>exact ⟨0,by omega,by omega,rfl,rfl,rfl,rfl⟩
      case round =>
       obtain ⟨j,rfl,hj,rfl,rfl,rfl,rfl⟩:=hrel;have HSW:Hid (sweepTo M (j+1) gr=growStep M (sweepTo M j gr) j):=sweep_succ _ _ _
       by_cases hjt:j<K.vars
       ·have hji:(j:Int)<(K.vars:Int):=by omega
        have hj64:j<64:=by omega
        generalize hst:sweepTo M j gr=st at HSW;obtain ⟨x,t⟩:=st;obtain ⟨m,hm⟩ : ∃ m,M[j]?=some m:=⟨_,List.getElem?_eq_getElem (by omega)⟩
        have hrow:=row_keep HM.out.1.row fun k hk=>HG.out.2.2.block k (HM.out.1.row.lt k hk).2 (by simp)
        have cm:=row_cell hrow (j:=j) (u:=.int .u64 m) (by simp [flatU,hm])
        have HD:Hid (M.getD j 0=m):=by
         show _=_
         rw [List.getD_eq_getElem?_getD,hm];rfl
        clear hrow hm
        simp only
        cases hb:(bits BinOp.and IntKind.u64 (x/2 ^ j) 1 == 1) with
        | false =>
         have HN:Hid (growStep M (x,t) j=(x,t)):=by
          unfold growStep
          show (if bitT x j&&_ then _ else _)=_
          rw [show bitT x j=false from hb];rfl
         go_wp2_with fail
         go_roundg (K.vars-(j+1))
         case measure=>omega
         case rel=>exact ⟨j+1,rfl,by omega,by simp,by rw [HSW.out,HN.out],by rw [HSW.out,HN.out],rfl⟩
        | true =>
         by_cases hz:bits BinOp.andNot IntKind.u64 m x=0
         ·have hz1:(bits BinOp.andNot IntKind.u64 m x == 0)=true:=by simpa using hz
          have HN:Hid (growStep M (x,t) j=(x,t)):=by
           unfold growStep
           show (if bitT x j&&decide (bits BinOp.andNot IntKind.u64 (M.getD j 0) x≠0) then _ else _)=_
           rw [HD.out];simp [hz]
          go_wp2_with fail
          go_roundg (K.vars-(j+1))
          case measure=>omega
          case rel=>exact ⟨j+1,rfl,by omega,by simp,by rw [HSW.out,HN.out],by rw [HSW.out,HN.out],rfl⟩
         ·have hz1:(bits BinOp.andNot IntKind.u64 m x == 0)=false:=by simpa using hz
          have HN:Hid (growStep M (x,t) j=(bits BinOp.or IntKind.u64 x m,true)):=by
           unfold growStep
           show (if bitT x j&&decide (bits BinOp.andNot IntKind.u64 (M.getD j 0) x≠0) then (bits BinOp.or IntKind.u64 x (M.getD j 0),true) else _)=_
           rw [HD.out,show bitT x j=true from hb];simp [hz]
          go_wp2_with fail
          go_roundg (K.vars-(j+1))
          case measure=>omega
          case rel=>exact ⟨j+1,rfl,by omega,by simp,by rw [HSW.out,HN.out],by rw [HSW.out,HN.out],rfl⟩
       ·obtain rfl:j=K.vars:=by omega
        have hji:¬ ((K.vars:Int)<(K.vars:Int)):=by omega
        have HGR:=Lib.hid (sweep_grow M K.vars gr HT.out.2)
        have HMO:Hid ((sweepTo M K.vars gr).2=true->∀ z,Grow M K.vars (sweepTo M K.vars gr).1 z->Grow M K.vars (IntKind.u64.wrap (2 ^ v)) z):=fun h z k=>HT.out.1 z (.more h k)
        have HDO:Hid ((sweepTo M K.vars gr).2=false->Grow M K.vars (IntKind.u64.wrap (2 ^ v)) (sweepTo M K.vars gr).1):=fun h=>HT.out.1 _ (by
         have e:=(sweep_grow M K.vars gr HT.out.2).2.2.2 h
         rw [e];exact .done h)
        generalize sweepTo M K.vars gr=st at *;obtain ⟨x,t⟩:=st
        simp only
        go_wp2_with fail
        go_roundg ((18446744073709551616-x).toNat+(if t then 1 else 0))
        case measure =>
         have h1:=HGR.out;unfold U64 at h1
         cases t with
         | true=>have:=h1.2.2.1 rfl;simp at h1 this ⊢;omega
         | false=>have:=h1.2.2.2 rfl;simp at h1 this ⊢;omega
        case rel=>exact ⟨x,t,rfl,rfl,rfl,HGR.out.1,HMO.out,HDO.out,rfl⟩
  ·obtain rfl:v=K.vars:=by omega
   have hvi:¬ ((K.vars:Int)<(K.vars:Int)):=by omega
   have HE:=Lib.hid (And.intro (row_base ho hw1) (And.intro (HM.out.1.up.trans hU) (show GrR (ss.foldl (matRow K.vars) (List.replicate K.vars 0)) K.vars K.vars d gs by rw [HM.out.2.2];exact hG)));clear hG ho hU;go_wp2_with fail;go_ret;exact ⟨_,ss,d,gs,rfl,HM.out.2.1,HE.out.2.2,HE.out.1,HE.out.2.1⟩
end Go.Proofs.YtpfafhmkbcahhaaGreat
