import Derived.Test.YtpfafhmkbcahhaaGreatPS10
namespace Go.Proofs.YtpfafhmkbcahhaaGreat
open Go.RowKit Go.Maps Go.ChangeMaps Go.WideShapes
theorem Tryz.infoCrossing:(Tryz.prog.info? 276).map (fun i=>(i.zero,i.size,i.bytes))=some (some (.agg #[.int .u32 0,.int .i64 0,.int .u32 0,.int .u32 0,.int .u32 0,.int .u32 0,.int .u32 0,.int .u32 0]),8,40):=by kernel_rfl
theorem node_field0 (a b c:Value) (z:World):(Instr.field 115 (.agg #[a,b,c]) 0).run Tryz.prog z=.ok a z:=by kernel_rfl
structure RefsX (K:KV) (x:Nat) (w:World) (e:Ending) (w':World):Prop where
  ex:∃ (rs:List Nat) (a:Option Addr) (c:Nat),e=.returned (.tuple #[.slice a rs.length c,.int .i64 0])∧rs.Nodup∧(∀ r,r∈rs↔(2≤r∧K.A.tk r=true∧K.vI r=(x:Int))) ∧
    w'.ownsRow w.heap.size 54 1 (.slice a rs.length c) rs.length (flatRefs rs)∧Upd [] w w'
structure CrsR (w:World) (l x y:Nat) (K:KV) (rs:List Nat) (i:Nat) (s7:Value) (wr:World):Prop where
  ex:∃ (C:List CrV) (la:Option Addr) (lc:Nat),s7=.slice la C.length lc∧(∀ c,c∈C→CrOk K l x y c∧c.R32)∧(C.map CrV.r).Nodup∧(∀ r,r∈C.map CrV.r↔r∈rs.take i∧K.Cross x y r) ∧
    wr.ownsRow w.heap.size 276 8 (.slice la C.length lc) C.length (flatC x C)
  up:Upd [] w wr
theorem crs_len {K:KV} {l x y:Nat} {C:List CrV} (h:∀ c,c∈C→CrOk K l x y c∧c.R32) (nd:(C.map CrV.r).Nodup) (hk:K.Wf []):C.length≤1048576:=by
  have h1:(C.map CrV.r).length≤(List.range 1048576).length:=List.Nodup.length_le_of_subset nd fun r hr=>by
    obtain ⟨c,hc,rfl⟩:=List.mem_map.1 hr;have ht:=Nb.cross_tk (h c hc).1.cr;have h2:=ArenaV.tk_lt ht;have h3:=hk.ok.lp;have h4:=hk.ok.pm;exact List.mem_range.2 (by omega)
  simpa using h1
theorem CrsR.keep {w wr w2:World} {l x y i:Nat} {K:KV} {rs:List Nat} {s7:Value} (h:CrsR w l x y K rs i s7 wr) (u:Upd [] wr w2):CrsR w l x y K rs i s7 w2:=by
  obtain ⟨C,la,lc,e,h1,h2,h3,h4⟩:=h.ex;exact ⟨⟨C,la,lc,e,h1,h2,h3,row_keep h4 fun k hk=>u.block k (h4.lt k hk).2 (by simp)⟩,h.up.trans u⟩
theorem CrsR.skip {w wr:World} {l x y i r:Nat} {K:KV} {rs:List Nat} {s7:Value} (h:CrsR w l x y K rs i s7 wr) (hr:rs[i]?=some r) (hno:¬ K.Cross x y r):CrsR w l x y K rs (i + 1) s7 wr:=by
  obtain ⟨C,la,lc,e,h1,h2,h3,h4⟩:=h.ex;refine ⟨⟨C,la,lc,e,h1,h2,fun s=>?_,h4⟩,h.up⟩;rw [h3,List.take_add_one,hr];constructor
  · rintro ⟨a,b⟩; exact ⟨List.mem_append_left _ a,b⟩
  · rintro ⟨a,b⟩
    rcases List.mem_append.1 a with a | a
    · exact ⟨a,b⟩
    · simp at a; subst a; exact absurd b hno
theorem CrsR.push {w w6:World} {l x y i r g cap:Nat} {K:KV} {rs:List Nat} {C:List CrV} {c:CrV} (hr:rs[i]?=some r) (hnd:rs.Nodup) (hc:CrOk K l x y c∧c.R32) (ec:c.r=r)
    (h1:∀ c,c∈C→CrOk K l x y c∧c.R32) (h2:(C.map CrV.r).Nodup) (h3:∀ r,r∈C.map CrV.r↔r∈rs.take i∧K.Cross x y r)
    (hown:w6.ownsRow w.heap.size 276 8 (.slice (some ⟨g,0,none⟩) (C.length + 1) cap) (C.length + 1) (flatC x C ++ c.flat x)) (u:Upd [] w w6):CrsR w l x y K rs (i + 1) (.slice (some ⟨g,0,none⟩) (C.length + 1) cap) w6:=by
  have hno:r∉rs.take i:=fun hm=>by
    have nd:=hnd;rw [← List.take_append_drop i rs,(split_at hr).1,List.nodup_append] at nd;exact nd.2.2 _ hm _ (by simp) rfl
  have hlen:(C ++ [c]).length=C.length + 1:=by simp
  refine ⟨⟨C ++ [c],some ⟨g,0,none⟩,cap,by rw [hlen],fun d hd=>?_,?_,fun s=>?_,?_⟩,u⟩
  · rcases List.mem_append.1 hd with hd | hd
    · exact h1 d hd
    · simp at hd; subst hd; exact hc
  · rw [List.map_append,List.nodup_append]
    refine ⟨h2,by simp,fun a ha b hb e=>?_⟩
    simp at hb
    subst e;rw [hb,ec] at ha;exact hno ((h3 r).1 ha).1
  · rw [List.map_append,List.mem_append,h3,List.take_add_one,hr,List.mem_append]
    simp only [List.map_cons,List.map_nil,List.mem_singleton,Option.toList_some,ec]
    constructor
    · rintro (⟨a,b⟩ | rfl)
      · exact ⟨.inl a,b⟩
      · exact ⟨.inr rfl,ec ▸ hc.1.cr⟩
    · rintro ⟨a | rfl,b⟩
      · exact .inl ⟨a,b⟩
      · exact .inr rfl
  · rw [hlen]
    have:flatC x (C ++ [c])=flatC x C ++ c.flat x:=by simp [flatC]
    rw [this]; exact hown
set_option maxRecDepth 100000 in
set_option maxHeartbeats 3200000 in
theorem crossings_spec (b l x y:Nat) (K:KV) (T:List DM) (q:KPtr) (w:World) (h:KerIn w b K T q) (nb:Nb K l x y)
    (HREF:∀ w0:World,Upd [] w w0→Calls Tryz.prog 235 #[.pointer (some ⟨q.t,0,none⟩),.int .i64 x] w0 fun e w'=>RefsX K x w0 e w') :
    Calls Tryz.prog 202 #[.pointer (some ⟨b,0,none⟩),.int .i64 x,.int .i64 y] w fun e w'=>CrossQ l x y K w e w':=by
  obtain ⟨ti,hi,hz,hs,hb⟩:=info_parts Tryz.infoCrossing;have HI:=Lib.hid (And.intro hi (And.intro hz (And.intro hs hb)));have c1:w.cell? ⟨b,1,none⟩=some (.pointer (some ⟨q.t,0,none⟩)):=cell_at h.mem.blk rfl
  have HK:Hid (∀ z:World,Upd [] w z→KerIn z b K T q):=fun z u=>h.upd u (by simp)
  have HNB:=Lib.hid nb;have HR:=Lib.hid (HREF w (Upd.refl _ _));clear h nb HREF hi hz hs hb
  go_enter Tryz.func202,Tryz.ntmps202
  go_wp2_with fail;refine HR.out.mono ?_;rintro e w1 hE;obtain ⟨rs,a,c,rfl,hnd,hmem,hrow,hu⟩:=hE.ex;have HRS:=Lib.hid (And.intro hnd (And.intro hmem (And.intro hrow hu)))
  have hrl:rs.length≤1048576:=by
    have h1:rs.length≤(List.range 1048576).length:=List.Nodup.length_le_of_subset hnd fun r hr=>by
      have ht:=((hmem r).1 hr).2.1;have h2:=ArenaV.tk_lt ht;have h3:=HNB.out.ok.wf.ok.lp;have h4:=HNB.out.ok.wf.ok.pm;exact List.mem_range.2 (by omega)
    simpa using h1
  clear hE hnd hmem hrow hu HR c1;go_wp2_with fail
  go_loopg [7,26] rs.length (fun gg s7 s26 wr=>∃ i:Nat,rs.length - i=gg∧i≤rs.length∧s26=.int .i64 i∧CrsR w1 l x y K rs i s7 wr)
  case atStart=>exact ⟨0,by omega,by omega,rfl,⟨⟨[],none,0,rfl,by simp,by simp,by simp,World.ownsRow_nil _ _ _ _⟩,Upd.refl _ _⟩⟩
  case round =>
    obtain ⟨i,rfl,hi,rfl,hF⟩:=hrel
    by_cases hlt:i < rs.length
    · obtain ⟨r,hr⟩ : ∃ r,rs[i]?=some r:=⟨_,List.getElem?_eq_getElem hlt⟩
      have hrow:=row_keep HRS.out.2.2.1 fun k hk=>hF.up.block k (HRS.out.2.2.1.lt k hk).2 (by simp)
      obtain ⟨gr,rfl⟩:=row_some hrow (by omega);have cf:=row_cell hrow (j:=i) (u:=.int .u32 r) (by simp [flatRefs,hr]);obtain ⟨r2,rt,rv⟩:=(HRS.out.2.1 r).1 (List.mem_of_getElem? hr);obtain ⟨p,v,hp,hpt,hpv,hvl,tlo,thi,hdep⟩:=HNB.out.ok.wf.node_at r2 rt
      have hvx:v=x:=by rw [KV.vI_at hp,hpv] at rv; omega
      subst hvx;obtain ⟨pl,hpl,hplt⟩:=ArenaV.tk_iff.1 tlo;obtain ⟨ph,hph,hpht⟩:=ArenaV.tk_iff.1 thi;have hlo32:p.lo≤4294967295:=(HNB.out.ok.wf.ok.u32 p (List.mem_of_getElem? hp)).1;have hhi32:p.hi≤4294967295:=(HNB.out.ok.wf.ok.u32 p (List.mem_of_getElem? hp)).2.1
      have hr32:r≤4294967295:=by
        have h1:=ArenaV.tk_lt rt;have h3:=HNB.out.ok.wf.ok.lp;have h4:=HNB.out.ok.wf.ok.pm;omega
      have hil:(i:Int) < (rs.length:Int):=by omega
      have HUW:Hid (Upd [] w wr):=HRS.out.2.2.2.trans hF.up;have HN:=Lib.hid (node_spec b r K T q p wr (HK.out wr HUW.out).mem hr32 hp hpt);have HP:=Lib.hid (And.intro hp (And.intro hpt (And.intro hpv (And.intro tlo (And.intro thi (And.intro hpl (And.intro hplt (And.intro hph hpht))))))));have HRI:=Lib.hid (And.intro hr (And.intro r2 hdep));have HF:=Lib.hid hF;rw [hpv] at HN;clear hF hrow hr rt rv hp hpt hpv tlo thi hpl hplt hph hpht r2 hdep;go_wp2_with fail;refine HN.out.mono ?_;rintro e w2 ⟨rfl,hu⟩;have HU2:=Lib.hid (hu.alloc (.cells #[.int .i64 v,.int .u32 p.lo,.int .u32 p.hi] 115 (0,0)));have hbx:=heap_alloc_new w2 (.cells #[.int .i64 v,.int .u32 p.lo,.int .u32 p.hi] 115 (0,0));obtain ⟨wz,hwz⟩ : ∃ wz,w2.alloc (.cells #[.int .i64 v,.int .u32 p.lo,.int .u32 p.hi] 115 (0,0))=wz:=⟨_,rfl⟩
      have q0:∀ z:Still wz,z.x.cell? ⟨w2.heap.size,0,none⟩=some (.int .i64 v):=fun z=>z.cell (by rw [← hwz]; exact cell_at hbx rfl)
      have q1:∀ z:Still wz,z.x.cell? ⟨w2.heap.size,1,none⟩=some (.int .u32 p.lo):=fun z=>z.cell (by rw [← hwz]; exact cell_at hbx rfl)
      have q2:∀ z:Still wz,z.x.cell? ⟨w2.heap.size,2,none⟩=some (.int .u32 p.hi):=fun z=>z.cell (by rw [← hwz]; exact cell_at hbx rfl)
      rw [hwz] at HU2;have HWZ:=Lib.hid hwz
      have HQ1:Hid (∀ z:Still wz,Calls Tryz.prog 151 #[.pointer (some ⟨b,0,none⟩),.int .u32 p.lo] z.x fun e w'=>e=.returned (.agg #[.int .i64 pl.var,.int .u32 pl.lo,.int .u32 pl.hi])∧∃ m:Still wz,w'=m.x):=fun z =>
        (node_spec b p.lo K T q pl z.x (HK.out _ (HUW.out.trans (HU2.out.trans z.u))).mem hlo32 HP.out.2.2.2.2.2.1 HP.out.2.2.2.2.2.2.1).mono fun _ _ ⟨a,u⟩=>⟨a,⟨_,z.u.trans u⟩,rfl⟩
      have HQ2:Hid (∀ z:Still wz,Calls Tryz.prog 151 #[.pointer (some ⟨b,0,none⟩),.int .u32 p.hi] z.x fun e w'=>e=.returned (.agg #[.int .i64 ph.var,.int .u32 ph.lo,.int .u32 ph.hi])∧∃ m:Still wz,w'=m.x):=fun z =>
        (node_spec b p.hi K T q ph z.x (HK.out _ (HUW.out.trans (HU2.out.trans z.u))).mem hhi32 HP.out.2.2.2.2.2.2.2.1 HP.out.2.2.2.2.2.2.2.2).mono fun _ _ ⟨a,u⟩=>⟨a,⟨_,z.u.trans u⟩,rfl⟩
      have HV:Hid (K.vI p.lo=pl.var∧K.vI p.hi=ph.var):=⟨KV.vI_at HP.out.2.2.2.2.2.1,KV.vI_at HP.out.2.2.2.2.2.2.2.1⟩
      have HCX:Hid (K.Cross v y r↔(pl.var=(y:Int)∨ph.var=(y:Int))):=by
        rw [← HV.out.1,← HV.out.2];exact ⟨fun ⟨_,p',hp',_,_,hk⟩=>by rw [HP.out.1] at hp'; cases hp'; exact hk,fun hk=>⟨HRI.out.2.1,p,HP.out.1,HP.out.2.1,HP.out.2.2.1,hk⟩⟩
      generalize pl.var=v1 at *;generalize ph.var=v2 at *;clear hu hbx hwz HN;have hfld:=node_field0;go_upto_region 7 with fail;rw [HWZ.out]
      go_cut [54] from 35 to 54 (fun s54 wx=>s54=.bool (!(decide (v1=(y:Int)) || decide (v2=(y:Int))))∧Upd [] wz wx)
      case first =>
        by_cases h1:v1=(y:Int)
        · subst h1
          refine wp_region_still (by kernel_rfl) (by kernel_rfl) ?_
          repeat (first | go_big_quiet_step ((first | (go_at_call_of 151 (Value.int IntKind.u32 (p.lo:Int)); exact HQ1.out _) | (go_at_call_of 151 (Value.int IntKind.u32 (p.hi:Int)); exact HQ2.out _))) | quiet_step ((first | (go_at_call_of 151 (Value.int IntKind.u32 (p.lo:Int)); exact HQ1.out _) | (go_at_call_of 151 (Value.int IntKind.u32 (p.hi:Int)); exact HQ2.out _))))
          refine wpQuiet_nil ?_;rintro _ ⟨n2,rfl⟩;go_wp2_with fail;go_meet;exact ⟨by simp,n2.u⟩
        · have e1:(v1 == (y:Int))=false:=by simpa using h1
          have e2:decide (v1=(y:Int))=false:=decide_eq_false h1
          by_cases h2:v2=(y:Int)
          · subst h2
            refine wp_region_still (by kernel_rfl) (by kernel_rfl) ?_
            repeat (first | go_big_quiet_step ((first | (go_at_call_of 151 (Value.int IntKind.u32 (p.lo:Int)); exact HQ1.out _) | (go_at_call_of 151 (Value.int IntKind.u32 (p.hi:Int)); exact HQ2.out _))) | quiet_step ((first | (go_at_call_of 151 (Value.int IntKind.u32 (p.lo:Int)); exact HQ1.out _) | (go_at_call_of 151 (Value.int IntKind.u32 (p.hi:Int)); exact HQ2.out _))))
            refine wpQuiet_nil ?_;rintro _ ⟨n2,rfl⟩;go_wp2_with fail;go_meet;exact ⟨by simp,n2.u⟩
          · have e3:(v2 == (y:Int))=false:=by simpa using h2
            have e4:decide (v2=(y:Int))=false:=decide_eq_false h2;refine wp_region_still (by kernel_rfl) (by kernel_rfl) ?_
            repeat (first | go_big_quiet_step ((first | (go_at_call_of 151 (Value.int IntKind.u32 (p.lo:Int)); exact HQ1.out _) | (go_at_call_of 151 (Value.int IntKind.u32 (p.hi:Int)); exact HQ2.out _))) | quiet_step ((first | (go_at_call_of 151 (Value.int IntKind.u32 (p.lo:Int)); exact HQ1.out _) | (go_at_call_of 151 (Value.int IntKind.u32 (p.hi:Int)); exact HQ2.out _))))
            refine wpQuiet_nil ?_;rintro _ ⟨n2,rfl⟩;go_wp2_with fail;go_meet;exact ⟨by simp [h1,h2],n2.u⟩
      case rest =>
        obtain ⟨rfl,hux⟩:=hcut;have HUX:=Lib.hid (HU2.out.trans hux);have hb0:wc.cell? ⟨w2.heap.size,0,none⟩=some (.int .i64 v):=q0 ⟨wc,hux⟩;have hb1:wc.cell? ⟨w2.heap.size,1,none⟩=some (.int .u32 p.lo):=q1 ⟨wc,hux⟩;have hb2:wc.cell? ⟨w2.heap.size,2,none⟩=some (.int .u32 p.hi):=q2 ⟨wc,hux⟩;clear q0 q1 q2 hux HQ1 HQ2 hfld
        by_cases hcr:v1=(y:Int)∨v2=(y:Int)
        · have hbool:(!(decide (v1=(y:Int)) || decide (v2=(y:Int))))=false:=by rcases hcr with h | h <;> simp [h]
          rw [hbool];obtain ⟨p',a00,a01,a10,a11,F4⟩:=HNB.out.four (HCX.out.2 hcr)
          obtain rfl:p=p':=by have:=F4.at_; rw [HP.out.1] at this; cases this; rfl
          have h32:∀ {a:Nat},Deep K l a→a≤4294967295:=fun {a} ha=>by
            have h1:=ArenaV.tk_lt ha.1;have h3:=HNB.out.ok.wf.ok.lp;have h4:=HNB.out.ok.wf.ok.pm;omega
          have HC4:Hid (CrOk K l v y ⟨r,p.lo,p.hi,a00,a01,a10,a11⟩∧CrV.R32 ⟨r,p.lo,p.hi,a00,a01,a10,a11⟩):=⟨⟨HCX.out.2 hcr,p,F4,HP.out.2.2.1,rfl,rfl⟩,hr32,hlo32,hhi32,h32 F4.d00,h32 F4.d01,h32 F4.d10,h32 F4.d11⟩;have HE0:=Lib.hid F4.e0;have HE1:=Lib.hid F4.e1;have hbx:=heap_alloc_new wc (.cells #[.int .u32 r,.int .i64 v,.int .u32 p.lo,.int .u32 p.hi,.int .u32 0,.int .u32 0,.int .u32 0,.int .u32 0] 276 (0,0));have HU8:=Lib.hid ((HUX.out).alloc (.cells #[.int .u32 r,.int .i64 v,.int .u32 p.lo,.int .u32 p.hi,.int .u32 0,.int .u32 0,.int .u32 0,.int .u32 0] 276 (0,0)));have hb1':(wc.alloc (.cells #[.int .u32 r,.int .i64 v,.int .u32 p.lo,.int .u32 p.hi,.int .u32 0,.int .u32 0,.int .u32 0,.int .u32 0] 276 (0,0))).cell? ⟨w2.heap.size,1,none⟩=some (.int .u32 p.lo):=((Upd.refl [] wc).alloc _).cellK hb1;have hb2':(wc.alloc (.cells #[.int .u32 r,.int .i64 v,.int .u32 p.lo,.int .u32 p.hi,.int .u32 0,.int .u32 0,.int .u32 0,.int .u32 0] 276 (0,0))).cell? ⟨w2.heap.size,2,none⟩=some (.int .u32 p.hi):=((Upd.refl [] wc).alloc _).cellK hb2;have HBX:=Lib.hid (And.intro hbx (And.intro hb1' hb2'));clear hcr F4 h32 hbx hbool;go_wp2_with fail;refine (parts_spec b p.lo y K T q pl _ (HK.out _ (HUW.out.trans HU8.out)).mem hlo32 HP.out.2.2.2.2.2.1 HP.out.2.2.2.2.2.2.1).mono ?_;rintro e w3 ⟨rfl,hu⟩;rw [HE0.out];have hlt2:=World.block_lt_of_cell? _ _ hb2;have hBs:wr.heap.size≤wc.heap.size:=HUX.out.size;have HU3:=Lib.hid (HU8.out.trans hu);have hb3:=(hu.block wc.heap.size (heap_lt HBX.out.1) (by simp)).trans HBX.out.1;have hp2:=hu.cellK HBX.out.2.2
          have hne:w2.heap.size≠wc.heap.size:=by
            have:w2.heap.size < wc.heap.size:=hlt2;omega
          obtain ⟨C,la,lc,rfl,hC1,hC2,hC3,hC4⟩:=HF.out.ex;have HCC:=Lib.hid (And.intro hC1 (And.intro hC2 (And.intro hC3 hC4)));clear hC1 hC2 hC3 hC4 hlt2 hb0 hb1 hb2 hu HU8 HBX;generalize wc.heap.size=B at *;have z4:=cell_at (j:=4) hb3 rfl;have z5:=cell_at (j:=5) hb3 rfl;have f4:=frozen_at 4 hb3;have f5:=frozen_at 5 hb3;have HU4:=Lib.hid (((HU3.out.setCell (p:=⟨B,4,none⟩) (.inr hBs) (.int .u32 a00)).setCell (p:=⟨B,5,none⟩) (.inr hBs) (.int .u32 a01)));have HB4:Hid ((((w3.setCell ⟨B,4,none⟩ (.int .u32 a00)).setCell ⟨B,5,none⟩ (.int .u32 a01))).heap[B]?=some (.cells #[.int .u32 r,.int .i64 v,.int .u32 p.lo,.int .u32 p.hi,.int .u32 a00,.int .u32 a01,.int .u32 0,.int .u32 0] 276 (0,0))):=heap_set_eq (heap_set_eq hb3 (.int .u32 a00)) (.int .u32 a01);clear hb3;go_wp2_with fail;refine (parts_spec b p.hi y K T q ph _ (HK.out _ (HUW.out.trans HU4.out)).mem hhi32 HP.out.2.2.2.2.2.2.2.1 HP.out.2.2.2.2.2.2.2.2).mono ?_;rintro e w4 ⟨rfl,hu⟩;rw [HE1.out];have hb4:=(hu.block B (heap_lt HB4.out) (by simp)).trans HB4.out;have HU5:=Lib.hid ((((HU4.out.trans hu).setCell (p:=⟨B,6,none⟩) (.inr hBs) (.int .u32 a10)).setCell (p:=⟨B,7,none⟩) (.inr hBs) (.int .u32 a11)));have HB5:Hid ((((w4.setCell ⟨B,6,none⟩ (.int .u32 a10)).setCell ⟨B,7,none⟩ (.int .u32 a11))).heap[B]?=some (.cells #[.int .u32 r,.int .i64 v,.int .u32 p.lo,.int .u32 p.hi,.int .u32 a00,.int .u32 a01,.int .u32 a10,.int .u32 a11] 276 (0,0))):=heap_set_eq (heap_set_eq hb4 (.int .u32 a10)) (.int .u32 a11);have y0:=cell_at (j:=0) hb4 rfl;have y1:=cell_at (j:=1) hb4 rfl;have y2:=cell_at (j:=2) hb4 rfl;have y3:=cell_at (j:=3) hb4 rfl;have y4:=cell_at (j:=4) hb4 rfl;have y5:=cell_at (j:=5) hb4 rfl;have y6:=cell_at (j:=6) hb4 rfl;have y7:=cell_at (j:=7) hb4 rfl;have g6:=frozen_at 6 hb4;have g7:=frozen_at 7 hb4;have HROW:=Lib.hid (row_keep HCC.out.2.2.2 fun k hk=>HU5.out.block k (HCC.out.2.2.2.lt k hk).2 (by simp));have HCN:=Lib.hid (crs_len HCC.out.1 HCC.out.2.1 HNB.out.ok.wf);have hbn5:((w4.setCell ⟨B,6,none⟩ (.int .u32 a10)).setCell ⟨B,7,none⟩ (.int .u32 a11)).heap[B]?=some (.cells #[.int .u32 r,.int .i64 v,.int .u32 p.lo,.int .u32 p.hi,.int .u32 a00,.int .u32 a01,.int .u32 a10,.int .u32 a11] 276 (0,0)):=HB5.out
          have HC8:Hid (∀ u,u∈CrV.flat v ⟨r,p.lo,p.hi,a00,a01,a10,a11⟩→u.oneCell'=true):=by
            intro u hu
            simp [CrV.flat] at hu
            rcases hu with rfl | rfl | rfl | rfl | rfl | rfl | rfl | rfl <;> rfl
          have HSZ:Hid (w1.heap.size≤w4.heap.size):=by
            have h1:=HF.out.up.size;have h2:=HUX.out.size;have h3:=(HU4.out.trans hu).size
            show w1.heap.size≤w4.heap.size
            omega
          clear hb4 hu z4 z5 f4 f5 hp2 hbn5
          go_wp2_with (at_builtin; go_must (refine wpList_append_lies _ rfl (.tmp 78) (.tmp 80) 272 rfl w1.heap.size 276 ti _ 8 40 Tryz.underlying272 HI.out.1 HI.out.2.1 HI.out.2.2.1 HI.out.2.2.2 (by rfl) (by decide) _ C.length (flatC v C) rfl (HROW.out.alloc _) ⟨w4.heap.size,0,none⟩ 1 1 (CrV.flat v ⟨r,p.lo,p.hi,a00,a01,a10,a11⟩) rfl rfl ?c1 HC8.out (by omega) (by unfold maxLen; have:=HCN.out; omega) (by have:=HCN.out; omega) ?c2 _ rfl ?_))
          case c1 =>
            have h1:=heap_alloc_new ((w4.setCell ⟨B,6,none⟩ (.int .u32 a10)).setCell ⟨B,7,none⟩ (.int .u32 a11)) (.cells #[.int .u32 r,.int .i64 v,.int .u32 p.lo,.int .u32 p.hi,.int .u32 a00,.int .u32 a01,.int .u32 a10,.int .u32 a11] 276 (0,0));rw [show ((w4.setCell ⟨B,6,none⟩ (.int .u32 a10)).setCell ⟨B,7,none⟩ (.int .u32 a11)).heap.size=w4.heap.size by simp [World.setCell]] at h1;exact World.news_of_block h1
          case c2=>(rw [World.size_alloc]; have:=HSZ.out; simp [World.setCell]; omega)
          intro g5 cap w5 hown hgr hat hlt5
          have HE:Hid (CrsR w1 l v y K rs (i + 1) (.slice (some ⟨g5,0,none⟩) (C.length + 1) cap) w5) :=
            CrsR.push HRI.out.1 HRS.out.1 HC4.out rfl HCC.out.1 HCC.out.2.1 HCC.out.2.2.1 hown (((HF.out.up.trans HU5.out).alloc _).grown hgr fun k hk=>.inr (HCC.out.2.2.2.lt k hk).1)
          clear hown hgr hat hlt5;go_wp2_with fail
          go_roundg (rs.length - (i + 1))
          case measure=>omega
          case rel=>exact ⟨i + 1,rfl,by omega,by simp,HE.out⟩
        · have hbool:(!(decide (v1=(y:Int)) || decide (v2=(y:Int))))=true:=by
            rw [not_or] at hcr
            simp [hcr.1,hcr.2]
          rw [hbool];have HS:Hid (CrsR w1 l v y K rs (i + 1) u7 wc):=(HF.out.keep HUX.out).skip HRI.out.1 (fun hc=>hcr (HCX.out.1 hc));clear hcr hbool hb0 hb1 hb2;go_wp2_with fail
          go_roundg (rs.length - (i + 1))
          case measure=>omega
          case rel=>exact ⟨i + 1,rfl,by omega,by simp,HS.out⟩
    · obtain rfl:i=rs.length:=by omega
      have hil:¬ ((rs.length:Int) < (rs.length:Int)):=by omega
      obtain ⟨C,la,lc,rfl,h1,h2,h3,h4⟩:=hF.ex
      have HE:Hid (CrossQ l x y K w (.returned (.slice la C.length lc)) wr):=by
        refine ⟨C,la,lc,rfl,⟨fun c hc=>(h1 c hc).1,h2,fun s hs=>(h3 s).2 ⟨?_,hs⟩⟩,fun c hc=>(h1 c hc).2,row_base h4 HRS.out.2.2.2.size,HRS.out.2.2.2.trans hF.up⟩;rw [List.take_length];obtain ⟨s2,p,hp,hpt,hv,_⟩:=hs;exact (HRS.out.2.1 s).2 ⟨s2,ArenaV.tk_iff.2 ⟨p,hp,hpt⟩,by rw [KV.vI_at hp]; exact hv⟩
      clear hF h1 h2 h3 h4;go_wp2_with fail;go_ret;exact HE.out
end Go.Proofs.YtpfafhmkbcahhaaGreat
namespace Go.Proofs.YtpfafhmkbcahhaaGreat
open Go.RowKit Go.Maps Go.ChangeMaps Go.WideShapes
theorem Sub.up {S S':List Nat} {w:World} {g:Nat} (hs:Sub S w S') (hg:g∉S) (hl:g < w.heap.size):g∉S':=fun hm=>by
  rcases hs g hm with h | h
  · exact hg h
  · omega
set_option maxRecDepth 100000 in
set_option maxHeartbeats 6400000 in
theorem turn_core (b l:Nat) (K:KV) (T:List DM) (q:KPtr) (w:World) (h:KerIn w b K T q) (hl:l + 2≤K.vars)
    (HREF:∀ w0:World,Upd [] w w0→Calls Tryz.prog 235 #[.pointer (some ⟨q.t,0,none⟩),.int .i64 (K.order.getD l 0:Nat)] w0 fun e w'=>RefsX K (K.order.getD l 0) w0 e w') :
    Calls Tryz.prog 136 #[.pointer (some ⟨b,0,none⟩),.int .i64 l] w fun e w'=>KTurnQ b l K q w e w':=by
  have hw:=h.ok.wf;have hpm:=h.ok.ord.pm;have hvs:=hw.vs;have hol:=hpm.ol;have hll:=hpm.ll;have hx:=hpm.oo l (by omega);have hy:=hpm.oo (l + 1) (by omega);obtain ⟨x,hxe⟩ : ∃ x,K.order.getD l 0=x:=⟨_,rfl⟩;obtain ⟨y,hye⟩ : ∃ y,K.order.getD (l + 1) 0=y:=⟨_,rfl⟩
  have hxv:x < K.vars:=by rw [← hxe]; exact hx.1
  have hyv:y < K.vars:=by rw [← hye]; exact hy.1
  have HNB:Hid (Nb K l x y):=⟨h.ok,h.ti.uni h.ok.wf,hl,hxe,hye⟩;rw [hxe] at HREF;have hos:=h.mem.os;have hls:=h.mem.ls;obtain ⟨go,co,hqo,_,_⟩:=hos.form (by omega);obtain ⟨gl,cl,hql,_,_⟩:=hls.form (by omega);rw [hqo] at hos
  have b5:w.cell? ⟨b,5,none⟩=some (.slice (some ⟨go,0,none⟩) K.order.length co):=by rw [← hqo]; exact cell_at h.mem.blk rfl
  have o0:w.cell? ⟨go,l,none⟩=some (.int .i64 x):=by rw [← hxe]; exact rowN_cell hos (by omega)
  have o1:w.cell? ⟨go,l + 1,none⟩=some (.int .i64 y):=by rw [← hye]; exact rowN_cell hos (by omega)
  have hli:(l:Int) < (K.order.length:Int):=by omega
  have hli1:(l:Int) + 1 < (K.order.length:Int):=by omega
  have hli2:0≤(l:Int) + 1:=by omega
  have hw1:IntKind.i64.wrap ((l:Int) + 1)=(l:Int) + 1:=IntWalk.i64_in _ (by omega);have HK:=Lib.hid h;have HXY:=Lib.hid (And.intro hxe hye);have HRF:=Lib.hid HREF;have HPM:=Lib.hid hpm;clear hos hx hy HREF hls;clear h hqo hql hpm hw hxe hye
  go_enter Tryz.func136,Tryz.ntmps136
  go_wp2_with fail
  go_region
  have HK1:=Lib.hid (HK.out.upd ((Upd.refl [] w).drew) (by simp));clear b5 o0 o1;go_wp2_with fail;refine (crossings_spec b l x y K T q _ HK1.out HNB.out (fun w0 u=>HRF.out w0 (((Upd.refl [] w).drew).trans u))).mono ?_;rintro e w1 hE;obtain ⟨C,la,lc,rfl,CA,C32,hrow,hu⟩:=hE.ex;have HU1:=Lib.hid (((Upd.refl [] w).drew).trans hu);have HROW:Hid (w1.ownsRow w.heap.size 276 8 (.slice la C.length lc) C.length (flatC x C)):=hrow;have hCl:=CA.len HK.out.ok.wf;obtain ⟨N,hN⟩:=FrN.exists K x (C.flatMap CrV.qs)
  have hNl:N.length≤2097152:=by
    have h1:N.length≤(C.flatMap CrV.qs).length:=List.Nodup.length_le_of_subset hN.nd fun p hp=>((hN.iff p).1 hp).1
    have e1:∀ l:List CrV,(l.flatMap CrV.qs).length=l.length * 2:=fun l=>by
      induction l with
      | nil=>rfl
      | cons e l ih=>rw [List.flatMap_cons,List.length_append,ih,List.length_cons]; simp [CrV.qs]; omega
    rw [e1] at h1; omega
  have HCA:=Lib.hid (And.intro CA (And.intro C32 hN));clear hE CA C32 hN hu HK1 hrow;go_wp2_with fail
  have HF:Hid (∀ n:Still w1,Calls Tryz.prog 204 #[.pointer (some ⟨b,0,none⟩),.int .i64 x,.slice la C.length lc] n.x fun e w2=>e=.returned (.int .i64 N.length)∧∃ m:Still w1,w2=m.x):=fun n =>
    (fresh_spec b x K T q C la lc w.heap.size n.x ((HK.out.upd HU1.out (by simp)).upd n.u (by simp)) hxv HCA.out.2.1 hCl (row_keep HROW.out fun k hk=>n.u.block k (HROW.out.lt k hk).2 (by simp))).mono fun e w2 hE=>by
      obtain ⟨N',rfl,hN',u⟩:=hE.ex;exact ⟨by rw [hN'.len_eq HCA.out.2.2],⟨_,n.u.trans u⟩,rfl⟩
  obtain ⟨bb,hbb⟩ : ∃ bb,K.room N.length=bb:=⟨_,rfl⟩
  have HR:Hid (∀ n:Still w1,Calls Tryz.prog 203 #[.pointer (some ⟨b,0,none⟩),.int .i64 N.length] n.x fun e w2=>e=.returned (.bool bb)∧∃ m:Still w1,w2=m.x):=fun n =>
    (room_spec b N.length K T q n.x ((HK.out.upd HU1.out (by simp)).upd n.u (by simp)).mem (by omega) (by omega)).mono fun _ _ ⟨a,u⟩=>⟨by rw [a,hbb],⟨_,n.u.trans u⟩,rfl⟩
  have HBB:=Lib.hid hbb;clear hbb;refine wp_region_still (by kernel_rfl) (by kernel_rfl) ?_
  repeat (quiet_step ((first | (go_at_call 204; exact HF.out _) | (go_at_call 203; exact HR.out _))))
  refine wpQuiet_nil ?_;rintro _ ⟨n2,rfl⟩;have HU2:=Lib.hid (HU1.out.trans n2.u)
  have HROW2:Hid (n2.x.ownsRow w.heap.size 276 8 (.slice la C.length lc) C.length (flatC x C)):=row_keep HROW.out fun k hk=>n2.u.block k (HROW.out.lt k hk).2 (by simp)
  obtain ⟨w2,hw2⟩ : ∃ w2,n2.x=w2:=⟨_,rfl⟩;rw [hw2] at HU2 HROW2 ⊢;clear HF HR HROW HU1 hw2
  cases bb with
  | false =>
    have HE:Hid (KTurnQ b l K q w (.returned (.bool false)) w2):=by
      refine ⟨C,N,by rw [HXY.out.1,HXY.out.2]; exact HCA.out.1,by rw [HXY.out.1]; exact HCA.out.2.2,.inl ⟨rfl,?_,HU2.out⟩⟩;have:=HBB.out
      simp [KV.room] at this; omega
    go_wp2_with fail;go_ret;exact HE.out
  | true =>
  have hroom:Hid (K.A.used + N.length≤K.A.places):=by
    have:=HBB.out
    simp [KV.room] at this
    show K.A.used + N.length≤K.A.places
    omega
  have HKE:Hid (∀ z:World,Upd (q.all b) w2 z→z.ownsRow w.heap.size 276 8 (.slice la C.length lc) C.length (flatC x C)):=fun z u=>row_keep HROW2.out fun k hk=>u.block k (HROW2.out.lt k hk).2 (fun hm=>by have h1:=(HROW2.out.lt k hk).1; have h2:=HK.out.mem.lt k hm; omega)
  have HR0:Hid (RemR b K q C w2 0 w2):=⟨⟨T,(HK.out.upd HU2.out (by simp)).mem,by simpa using HK.out.ti⟩,Upd.refl _ _⟩;go_wp2_with fail
  go_loopg [47] C.length (fun gg s47 wr=>∃ i:Nat,C.length - i=gg∧i≤C.length∧s47=.int .i64 i∧RemR b K q C w2 i wr)
  case atStart=>exact ⟨0,by omega,by omega,rfl,HR0.out⟩
  case round =>
    obtain ⟨i,rfl,hi,rfl,hR⟩:=hrel
    by_cases hlt:i < C.length
    · obtain ⟨c,hc⟩ : ∃ c,C[i]?=some c:=⟨_,List.getElem?_eq_getElem hlt⟩
      have hrow:=HKE.out wr hR.up;obtain ⟨gc,rfl⟩:=row_some hrow (by omega);have hg:=flatC_get x C i c hc;have c0:=row_cell hrow (j:=i * 8 + 0) (u:=.int .u32 c.r) (by rw [hg 0 (by omega)]; rfl);have c1:=row_cell hrow (j:=i * 8 + 1) (u:=.int .i64 x) (by rw [hg 1 (by omega)]; rfl);have c2:=row_cell hrow (j:=i * 8 + 2) (u:=.int .u32 c.lo) (by rw [hg 2 (by omega)]; rfl);have c3:=row_cell hrow (j:=i * 8 + 3) (u:=.int .u32 c.hi) (by rw [hg 3 (by omega)]; rfl);have c4:=row_cell hrow (j:=i * 8 + 4) (u:=.int .u32 c.a00) (by rw [hg 4 (by omega)]; rfl);have c5:=row_cell hrow (j:=i * 8 + 5) (u:=.int .u32 c.a01) (by rw [hg 5 (by omega)]; rfl);have c6:=row_cell hrow (j:=i * 8 + 6) (u:=.int .u32 c.a10) (by rw [hg 6 (by omega)]; rfl);have c7:=row_cell hrow (j:=i * 8 + 7) (u:=.int .u32 c.a11) (by rw [hg 7 (by omega)]; rfl);rw [Nat.add_zero] at c0
      have hil:(i:Int) < (C.length:Int):=by omega
      obtain ⟨T1,D1,hm,hD1,hh,h1,h2,hnext⟩:=hR.step hc HNB.out HCA.out.1;have hbx:=heap_alloc_new wr (.cells #[.int .u32 c.r,.int .i64 x,.int .u32 c.lo,.int .u32 c.hi,.int .u32 c.a00,.int .u32 c.a01,.int .u32 c.a10,.int .u32 c.a11] 276 (0,0));have hu0:=(Upd.refl [] wr).alloc (.cells #[.int .u32 c.r,.int .i64 x,.int .u32 c.lo,.int .u32 c.hi,.int .u32 c.a00,.int .u32 c.a01,.int .u32 c.a10,.int .u32 c.a11] 276 (0,0));have b1:=hu0.cellK (cell_at (j:=1) hm.blk rfl);have z1:=cell_at (j:=1) hbx rfl;have z2:=cell_at (j:=2) hbx rfl;have z3:=cell_at (j:=3) hbx rfl;have HX:=Lib.hid (And.intro hm (And.intro hD1 (And.intro hh (And.intro hnext (And.intro hR hu0)))));clear hm hD1 hh hnext hR hu0 hbx hrow hg hc;go_wp2_with fail
      have HZ:Hid (∀ z:World,Upd q.FT (wr.alloc (.cells #[.int .u32 c.r,.int .i64 x,.int .u32 c.lo,.int .u32 c.hi,.int .u32 c.a00,.int .u32 c.a01,.int .u32 c.a10,.int .u32 c.a11] 276 (0,0))) z→z.cell? ⟨b,1,none⟩=some (.pointer (some ⟨q.t,0,none⟩))∧z.cell? ⟨wr.heap.size,1,none⟩=some (.int .i64 x)∧z.cell? ⟨wr.heap.size,2,none⟩=some (.int .u32 c.lo)∧z.cell? ⟨wr.heap.size,3,none⟩=some (.int .u32 c.hi)):=fun z u=>by
        have nb1:b∉q.FT:=fun hm=>by have e1:=HK.out.mem.ob; have e2:=HK.out.mem.ot b hm; omega
        have nb2:wr.heap.size∉q.FT:=fun hm=>by have:=HX.out.1.tab.lt _ hm; omega
        exact ⟨(u.cell (World.block_lt_of_cell? _ _ b1) nb1).trans b1,(u.cell (World.block_lt_of_cell? _ _ z1) nb2).trans z1,(u.cell (World.block_lt_of_cell? _ _ z2) nb2).trans z2,(u.cell (World.block_lt_of_cell? _ _ z3) nb2).trans z3⟩
      clear c0 c1 c2 c3 c4 c5 c6 c7
      go_region_held3 (fun z=>z.cell? ⟨b,1,none⟩=some (.pointer (some ⟨q.t,0,none⟩))∧z.cell? ⟨wr.heap.size,1,none⟩=some (.int .i64 x)∧z.cell? ⟨wr.heap.size,2,none⟩=some (.int .u32 c.lo)∧z.cell? ⟨wr.heap.size,3,none⟩=some (.int .u32 c.hi)) (first | exact HZ.out _ (Upd.refl _ _).drew | exact HZ.out _ (Upd.refl _ _) | exact HZ.out _ HU3.out) (first | (go_at_call 205; refine (rem_spec q.t q.FT x c.lo c.hi T1 D1 _ (HX.out.1.upd (by first | exact HX.out.2.2.2.2.2.drew | exact HX.out.2.2.2.2.2) (by simp)).tab HX.out.2.1 h1 h2 HX.out.2.2.1).mono ?_; rintro e w3 ⟨rfl,ha,hu⟩; have HN:=Lib.hid (HX.out.2.2.2.1 w3 ha ((HX.out.2.2.2.2.2.mono (by simp)).trans (by first | exact hu | exact (Upd.refl _ _).drew.trans hu))); have HU3:Hid (Upd q.FT (wr.alloc (.cells #[.int .u32 c.r,.int .i64 x,.int .u32 c.lo,.int .u32 c.hi,.int .u32 c.a00,.int .u32 c.a01,.int .u32 c.a10,.int .u32 c.a11] 276 (0,0))) w3):=(by first | exact hu | exact (Upd.refl _ _).drew.trans hu); clear ha hu))
      go_wp2_with fail
      go_roundg (C.length - (i + 1))
      case measure=>omega
      case rel=>exact ⟨i + 1,rfl,by omega,by simp,HN.out⟩
    · obtain rfl:i=C.length:=by omega
      have hil:¬ ((C.length:Int) < (C.length:Int)):=by omega
      obtain ⟨T2,hT2⟩:=hR.done (N:=N) HNB.out HCA.out.1;have HT0:=Lib.hid hT2;clear hR hT2;go_wp2_with fail
      go_loopg [62] C.length (fun gg s62 wr=>∃ (i:Nat) (Ki:KV) (Ti:List DM) (qi:KPtr) (P:List Nat),C.length - i=gg∧i≤C.length∧s62=.int .i64 i∧TurR b l x y K q C N w2 i Ki Ti qi P wr)
      case atStart=>exact ⟨0,K,T2,q,[],by omega,by omega,rfl,HT0.out⟩
      case round =>
        obtain ⟨i,Ki,Ti,qi,P,rfl,hi,rfl,hR⟩:=hrel
        by_cases hlt:i < C.length
        · obtain ⟨c,hc⟩ : ∃ c,C[i]?=some c:=⟨_,List.getElem?_eq_getElem hlt⟩
          have hrow:=HKE.out wr hR.tx.up;obtain ⟨gc,rfl⟩:=row_some hrow (by omega);have hg:=flatC_get x C i c hc;have c0:=row_cell hrow (j:=i * 8 + 0) (u:=.int .u32 c.r) (by rw [hg 0 (by omega)]; rfl);have c1:=row_cell hrow (j:=i * 8 + 1) (u:=.int .i64 x) (by rw [hg 1 (by omega)]; rfl);have c2:=row_cell hrow (j:=i * 8 + 2) (u:=.int .u32 c.lo) (by rw [hg 2 (by omega)]; rfl);have c3:=row_cell hrow (j:=i * 8 + 3) (u:=.int .u32 c.hi) (by rw [hg 3 (by omega)]; rfl);have c4:=row_cell hrow (j:=i * 8 + 4) (u:=.int .u32 c.a00) (by rw [hg 4 (by omega)]; rfl);have c5:=row_cell hrow (j:=i * 8 + 5) (u:=.int .u32 c.a01) (by rw [hg 5 (by omega)]; rfl);have c6:=row_cell hrow (j:=i * 8 + 6) (u:=.int .u32 c.a10) (by rw [hg 6 (by omega)]; rfl);have c7:=row_cell hrow (j:=i * 8 + 7) (u:=.int .u32 c.a11) (by rw [hg 7 (by omega)]; rfl);rw [Nat.add_zero] at c0
          have hil:(i:Int) < (C.length:Int):=by omega
          have hbx:=heap_alloc_new wr (.cells #[.int .u32 c.r,.int .i64 x,.int .u32 c.lo,.int .u32 c.hi,.int .u32 c.a00,.int .u32 c.a01,.int .u32 c.a10,.int .u32 c.a11] 276 (0,0));have hu0:=(Upd.refl [] wr).alloc (.cells #[.int .u32 c.r,.int .i64 x,.int .u32 c.lo,.int .u32 c.hi,.int .u32 c.a00,.int .u32 c.a01,.int .u32 c.a10,.int .u32 c.a11] 276 (0,0))
          have hbn:wr.heap.size∉qi.all b:=fun hm=>by have:=hR.tx.mem.lt _ hm; omega
          have hPl:P.length≤3000000:=by rw [hR.pe.length_eq,flat2_len,List.length_take]; omega
          have htx:=hR.tx;rw [(split_at hc).1,List.map_cons] at htx;have hq1:(c.a00,c.a10)∈C.flatMap CrV.qs:=List.mem_flatMap.2 ⟨c,List.mem_of_getElem? hc,by simp [CrV.qs]⟩;have hq2:(c.a01,c.a11)∈C.flatMap CrV.qs:=List.mem_flatMap.2 ⟨c,List.mem_of_getElem? hc,by simp [CrV.qs]⟩;have HD:=Lib.hid (And.intro hq1 (And.intro hq2 (And.intro (HCA.out.1.deep hq1) (HCA.out.1.deep hq2))));have HC0:=Lib.hid (And.intro (HCA.out.1.ok c (List.mem_of_getElem? hc)) hc);have HTX:=Lib.hid htx;have HRT:=Lib.hid hR
          have hsz:wr.heap.size < (wr.alloc (.cells #[.int .u32 c.r,.int .i64 x,.int .u32 c.lo,.int .u32 c.hi,.int .u32 c.a00,.int .u32 c.a01,.int .u32 c.a10,.int .u32 c.a11] 276 (0,0))).heap.size:=by rw [World.size_alloc]; omega
          clear hR hrow hg hc hq1 hq2 htx;go_wp2_with fail;obtain ⟨W1,hW1⟩ : ∃ W1,wr.alloc (.cells #[.int .u32 c.r,.int .i64 x,.int .u32 c.lo,.int .u32 c.hi,.int .u32 c.a00,.int .u32 c.a01,.int .u32 c.a10,.int .u32 c.a11] 276 (0,0))=W1:=⟨_,rfl⟩;rw [hW1] at hbx hu0 hsz ⊢;generalize wr.heap.size=sz at *;have HU0:=Lib.hid hu0;have HBX:=Lib.hid hbx;have HBN:=Lib.hid hbn
          have HC1:Hid (∀ z:World,Upd [] wr z→Calls Tryz.prog 206 #[.pointer (some ⟨b,0,none⟩),.int .i64 x,.int .u32 c.a00,.int .u32 c.a10] z fun e w'=>GetQ b x c.a00 c.a10 Ki (c.r :: (C.drop (i + 1)).map CrV.r) qi z e w'):=fun z u=>HTX.out.getCall (p:=(c.a00,c.a10)) HNB.out HCA.out.2.2 HD.out.1 HD.out.2.2.1.1 HD.out.2.2.1.2 hroom.out u (by omega)
          have HS1:Hid (∀ z:World,Upd [] W1 z→z.cell? ⟨sz,4,none⟩=some (.int .u32 c.a00)∧z.cell? ⟨sz,6,none⟩=some (.int .u32 c.a10)):=fun z u=>by obtain ⟨_,_,_,z4,_,z6,_⟩:=box8 HBX.out; exact ⟨u.cellK z4,u.cellK z6⟩
          clear c0 c1 c2 c3 c4 c5 c6 c7 hbx hu0 hbn hW1
          go_region_held3 (fun z=>z.cell? ⟨sz,4,none⟩=some (.int .u32 c.a00)∧z.cell? ⟨sz,6,none⟩=some (.int .u32 c.a10)) (first | exact HS1.out _ (Upd.refl _ _).drew | exact HS1.out _ (Upd.refl _ _) | exact HS2.out) (first | (go_at_call 206; refine (HC1.out _ (by first | exact HU0.out.drew | exact HU0.out)).mono ?_; rintro e wa hE; obtain ⟨lo,K1,T1,q1,rfl,G1,m1,t1,u1,s1,l1⟩:=hE.ex; have hBa:wa.heap[sz]?=some (.cells #[.int .u32 c.r,.int .i64 x,.int .u32 c.lo,.int .u32 c.hi,.int .u32 c.a00,.int .u32 c.a01,.int .u32 c.a10,.int .u32 c.a11] 276 (0,0)):=(u1.block sz hsz HBN.out).trans HBX.out; have HS2:Hid (wa.cell? ⟨sz,4,none⟩=some (.int .u32 c.a00)∧wa.cell? ⟨sz,6,none⟩=some (.int .u32 c.a10)):=⟨(box8 hBa).2.2.2.1,(box8 hBa).2.2.2.2.2.1⟩; have HBa:=Lib.hid hBa; have HG1:=Lib.hid (And.intro G1 (And.intro m1 (And.intro t1 (And.intro u1 (And.intro s1 l1))))); clear hE G1 m1 t1 u1 s1 hBa))
          have HC2:=Lib.hid (HTX.out.useCall (p:=(c.a00,c.a10)) HNB.out HD.out.2.2.1.1 HD.out.2.2.1.2 HG1.out.1 HG1.out.2.1 (by omega));have hsz2:sz < wa.heap.size:=Nat.lt_of_lt_of_le hsz HG1.out.2.2.2.1.size;have HN1:Hid (sz∉q1.all b):=HG1.out.2.2.2.2.1.up HBN.out hsz;clear HS1 HS2;go_wp2_with fail;refine HC2.out.mono ?_;rintro e wb ⟨rfl,m2,u2⟩;have HTX1:=Lib.hid (HTX.out.get (p:=(c.a00,c.a10)) HNB.out HCA.out.2.2 HD.out.1 HD.out.2.2.1.1 HD.out.2.2.1.2 hroom.out (by first | exact HU0.out.drew | exact HU0.out) HG1.out.1 HG1.out.2.2.1 HG1.out.2.2.2.1 HG1.out.2.2.2.2.1 m2 u2);have HBb:Hid (wb.heap[sz]?=some (.cells #[.int .u32 c.r,.int .i64 x,.int .u32 c.lo,.int .u32 c.hi,.int .u32 c.a00,.int .u32 c.a01,.int .u32 c.a10,.int .u32 c.a11] 276 (0,0))):=(u2.block sz hsz2 HN1.out).trans HBa.out;have hsz3:sz < wb.heap.size:=Nat.lt_of_lt_of_le hsz2 u2.size;clear m2 u2 HC2 HBa HG1;go_wp2_with fail
          have HC3:Hid (∀ z:World,Upd [] wb z→Calls Tryz.prog 206 #[.pointer (some ⟨b,0,none⟩),.int .i64 x,.int .u32 c.a01,.int .u32 c.a11] z fun e w'=>GetQ b x c.a01 c.a11 (K1.useA lo) (c.r :: (C.drop (i + 1)).map CrV.r) q1 z e w'):=fun z u=>HTX1.out.getCall (p:=(c.a01,c.a11)) HNB.out HCA.out.2.2 HD.out.2.1 HD.out.2.2.2.1 HD.out.2.2.2.2 hroom.out u (by simp; omega)
          have HS3:Hid (∀ z:World,Upd [] wb z→z.cell? ⟨sz,5,none⟩=some (.int .u32 c.a01)∧z.cell? ⟨sz,7,none⟩=some (.int .u32 c.a11)):=fun z u=>by obtain ⟨_,_,_,_,z5,_,z7⟩:=box8 HBb.out; exact ⟨u.cellK z5,u.cellK z7⟩
          go_region_held3 (fun z=>z.cell? ⟨sz,5,none⟩=some (.int .u32 c.a01)∧z.cell? ⟨sz,7,none⟩=some (.int .u32 c.a11)) (first | exact HS3.out _ (Upd.refl _ _).drew | exact HS3.out _ (Upd.refl _ _) | exact HS4.out) (first | (go_at_call 206; refine (HC3.out _ (by first | exact (Upd.refl _ _).drew | exact Upd.refl _ _)).mono ?_; rintro e wd hE; obtain ⟨hi',K2,T2,q2,rfl,G2,m3,t2,u3,s3,l2⟩:=hE.ex; have hBd:wd.heap[sz]?=some (.cells #[.int .u32 c.r,.int .i64 x,.int .u32 c.lo,.int .u32 c.hi,.int .u32 c.a00,.int .u32 c.a01,.int .u32 c.a10,.int .u32 c.a11] 276 (0,0)):=(u3.block sz hsz3 HN1.out).trans HBb.out; have HS4:Hid (wd.cell? ⟨sz,5,none⟩=some (.int .u32 c.a01)∧wd.cell? ⟨sz,7,none⟩=some (.int .u32 c.a11)):=⟨(box8 hBd).2.2.2.2.1,(box8 hBd).2.2.2.2.2.2⟩; have HBd:=Lib.hid hBd; have HG2:=Lib.hid (And.intro G2 (And.intro m3 (And.intro t2 (And.intro u3 (And.intro s3 l2))))); clear hE G2 m3 t2 u3 s3 hBd))
          have HC4:=Lib.hid (HTX1.out.useCall (p:=(c.a01,c.a11)) HNB.out HD.out.2.2.2.1 HD.out.2.2.2.2 HG2.out.1 HG2.out.2.1 (by simp; omega));have hsz4:sz < wd.heap.size:=Nat.lt_of_lt_of_le hsz3 HG2.out.2.2.2.1.size;have HN2:Hid (sz∉q2.all b):=HG2.out.2.2.2.2.1.up HN1.out hsz3;clear HS3 HS4 HC3;go_wp2_with fail;refine HC4.out.mono ?_;rintro e we ⟨rfl,m4,u4⟩;have HTX2:=Lib.hid (HTX1.out.get (p:=(c.a01,c.a11)) HNB.out HCA.out.2.2 HD.out.2.1 HD.out.2.2.2.1 HD.out.2.2.2.2 hroom.out (by first | exact (Upd.refl _ _).drew | exact Upd.refl _ _) HG2.out.1 HG2.out.2.2.1 HG2.out.2.2.2.1 HG2.out.2.2.2.2.1 m4 u4);have hBe:we.heap[sz]?=some (.cells #[.int .u32 c.r,.int .i64 x,.int .u32 c.lo,.int .u32 c.hi,.int .u32 c.a00,.int .u32 c.a01,.int .u32 c.a10,.int .u32 c.a11] 276 (0,0)):=(u4.block sz hsz4 HN2.out).trans HBd.out;have hsz5:sz < we.heap.size:=Nat.lt_of_lt_of_le hsz4 u4.size;have hxb:=heap_alloc_new we (.cells #[.int .i64 y,.int .u32 lo,.int .u32 hi'] 115 (0,0));have hxs:(we.alloc (.cells #[.int .i64 y,.int .u32 lo,.int .u32 hi'] 115 (0,0))).heap[sz]?=some (.cells #[.int .u32 c.r,.int .i64 x,.int .u32 c.lo,.int .u32 c.hi,.int .u32 c.a00,.int .u32 c.a01,.int .u32 c.a10,.int .u32 c.a11] 276 (0,0)):=(heap_alloc_old we _ hsz5).trans hBe;have hxu:=(Upd.refl [] we).alloc (.cells #[.int .i64 y,.int .u32 lo,.int .u32 hi'] 115 (0,0))
          have hxn:we.heap.size∉q2.all b:=fun hm=>by have:=m4.lt _ hm; omega
          have hxl:we.heap.size < (we.alloc (.cells #[.int .i64 y,.int .u32 lo,.int .u32 hi'] 115 (0,0))).heap.size:=by rw [World.size_alloc]; omega
          have hxa:=cell_at (j:=0) m4.blk rfl;clear m4 u4 HC4 HBd HG2 hBe HTX1 HBb;go_wp2_with fail;obtain ⟨W5,hW5⟩ : ∃ W5,we.alloc (.cells #[.int .i64 y,.int .u32 lo,.int .u32 hi'] 115 (0,0))=W5:=⟨_,rfl⟩;rw [hW5] at hxb hxs hxu hxl ⊢;generalize we.heap.size=s5 at *
          have HSET:Hid (∀ z:World,Upd [] we z→Calls Tryz.prog 208 #[.pointer (some ⟨q2.a,0,none⟩),.int .u32 c.r,.agg #[.int .i64 y,.int .u32 lo,.int .u32 hi']] z fun e w'=>e=.returned (.int .i64 0)∧∃ q1,KerMem w' b ((K2.useA hi').turnN c.r y lo hi') T2 q1∧q1.all b=q2.all b∧q1.t=q2.t∧q1.a=q2.a∧Upd (q2.all b) z w'):=fun z u=>HTX2.out.setCall HNB.out HC0.out.1 u
          have HS5:Hid (∀ z:World,Upd [] W5 z→z.cell? ⟨b,0,none⟩=some (.pointer (some ⟨q2.a,0,none⟩))∧z.cell? ⟨sz,0,none⟩=some (.int .u32 c.r)∧z.cell? ⟨s5,0,none⟩=some (.int .i64 y)∧z.cell? ⟨s5,1,none⟩=some (.int .u32 lo)∧z.cell? ⟨s5,2,none⟩=some (.int .u32 hi')):=fun z u=>⟨u.cellK (hxu.cellK hxa),u.cellK (box8 hxs).1,u.cellK (cell_at (j:=0) hxb rfl),u.cellK (cell_at (j:=1) hxb rfl),u.cellK (cell_at (j:=2) hxb rfl)⟩
          have HX5:=Lib.hid (And.intro hxb (And.intro hxs (And.intro hxu (And.intro hxn hxl))));have hsz6:sz < W5.heap.size:=heap_lt hxs;clear hxb hxs hxu hxn hxl hxa hW5
          go_region_held3 (fun z=>z.cell? ⟨b,0,none⟩=some (.pointer (some ⟨q2.a,0,none⟩))∧z.cell? ⟨sz,0,none⟩=some (.int .u32 c.r)∧z.cell? ⟨s5,0,none⟩=some (.int .i64 y)∧z.cell? ⟨s5,1,none⟩=some (.int .u32 lo)∧z.cell? ⟨s5,2,none⟩=some (.int .u32 hi')) (first | exact HS5.out _ (Upd.refl _ _).drew | exact HS5.out _ (Upd.refl _ _) | exact HS6.out) (first | (go_at_call 208; refine (HSET.out _ (by first | exact HX5.out.2.2.1.drew | exact HX5.out.2.2.1)).mono ?_; rintro e wf ⟨rfl,q3,m5,e5,et5,ea5,u5⟩; have hb5:wf.heap[s5]?=some (.cells #[.int .i64 y,.int .u32 lo,.int .u32 hi'] 115 (0,0)):=(u5.block s5 HX5.out.2.2.2.2 HX5.out.2.2.2.1).trans HX5.out.1; have hs5:wf.heap[sz]?=some (.cells #[.int .u32 c.r,.int .i64 x,.int .u32 c.lo,.int .u32 c.hi,.int .u32 c.a00,.int .u32 c.a01,.int .u32 c.a10,.int .u32 c.a11] 276 (0,0)):=(u5.block sz hsz6 HN2.out).trans HX5.out.2.1; have HS6:Hid (wf.cell? ⟨b,0,none⟩=some (.pointer (some ⟨q2.a,0,none⟩))∧wf.cell? ⟨sz,0,none⟩=some (.int .u32 c.r)∧wf.cell? ⟨s5,0,none⟩=some (.int .i64 y)∧wf.cell? ⟨s5,1,none⟩=some (.int .u32 lo)∧wf.cell? ⟨s5,2,none⟩=some (.int .u32 hi')):=⟨by rw [← ea5]; exact cell_at (j:=0) m5.blk rfl,(box8 hs5).1,cell_at (j:=0) hb5 rfl,cell_at (j:=1) hb5 rfl,cell_at (j:=2) hb5 rfl⟩; have HM5:=Lib.hid (And.intro m5 (And.intro e5 (And.intro et5 (And.intro u5 (And.intro hb5 hs5))))); clear m5 e5 et5 u5 hb5 hs5))
          clear HS5 HS6 HSET;go_wp2_with fail;obtain ⟨DY,hDY,hadd⟩:=HTX2.out.addCall HNB.out HC0.out.1 (w1:=wf.drew) (HM5.out.1.upd ((Upd.refl [] wf).drew) (by simp));have HADD:=Lib.hid hadd;have HDY:=Lib.hid hDY
          have HS7:Hid (∀ z:World,Upd [] wf z→z.cell? ⟨b,1,none⟩=some (.pointer (some ⟨q3.t,0,none⟩))∧z.cell? ⟨sz,0,none⟩=some (.int .u32 c.r)∧z.cell? ⟨s5,0,none⟩=some (.int .i64 y)∧z.cell? ⟨s5,1,none⟩=some (.int .u32 lo)∧z.cell? ⟨s5,2,none⟩=some (.int .u32 hi')):=fun z u=>⟨u.cellK (cell_at (j:=1) HM5.out.1.blk rfl),u.cellK (box8 HM5.out.2.2.2.2.2).1,u.cellK (cell_at (j:=0) HM5.out.2.2.2.2.1 rfl),u.cellK (cell_at (j:=1) HM5.out.2.2.2.2.1 rfl),u.cellK (cell_at (j:=2) HM5.out.2.2.2.2.1 rfl)⟩
          have hsz7:sz < wf.heap.size:=heap_lt HM5.out.2.2.2.2.2;have hsz8:s5 < wf.heap.size:=heap_lt HM5.out.2.2.2.2.1
          have HN3:Hid (sz∉q3.all b∧s5∉q3.all b):=by rw [show q3.all b=q2.all b from HM5.out.2.1]; exact ⟨HN2.out,HX5.out.2.2.2.1⟩
          clear hadd hDY
          go_region_held3 (fun z=>z.cell? ⟨b,1,none⟩=some (.pointer (some ⟨q3.t,0,none⟩))∧z.cell? ⟨sz,0,none⟩=some (.int .u32 c.r)∧z.cell? ⟨s5,0,none⟩=some (.int .i64 y)∧z.cell? ⟨s5,1,none⟩=some (.int .u32 lo)∧z.cell? ⟨s5,2,none⟩=some (.int .u32 hi')) (first | exact HS7.out _ (Upd.refl _ _).drew | exact HS7.out _ (Upd.refl _ _) | exact HS8.out) (first | (go_at_call 209; refine HADD.out.mono ?_; rintro e wg ⟨rfl,m6,u6⟩; have hb6:wg.heap[s5]?=some (.cells #[.int .i64 y,.int .u32 lo,.int .u32 hi'] 115 (0,0)):=(u6.block s5 hsz8 HN3.out.2).trans HM5.out.2.2.2.2.1; have hs6:wg.heap[sz]?=some (.cells #[.int .u32 c.r,.int .i64 x,.int .u32 c.lo,.int .u32 c.hi,.int .u32 c.a00,.int .u32 c.a01,.int .u32 c.a10,.int .u32 c.a11] 276 (0,0)):=(u6.block sz hsz7 HN3.out.1).trans HM5.out.2.2.2.2.2; have HS8:Hid (wg.cell? ⟨b,1,none⟩=some (.pointer (some ⟨q3.t,0,none⟩))∧wg.cell? ⟨sz,0,none⟩=some (.int .u32 c.r)∧wg.cell? ⟨s5,0,none⟩=some (.int .i64 y)∧wg.cell? ⟨s5,1,none⟩=some (.int .u32 lo)∧wg.cell? ⟨s5,2,none⟩=some (.int .u32 hi')):=⟨cell_at (j:=1) m6.blk rfl,(box8 hs6).1,cell_at (j:=0) hb6 rfl,cell_at (j:=1) hb6 rfl,cell_at (j:=2) hb6 rfl⟩; have HM6:=Lib.hid (And.intro m6 u6); clear m6 u6 hb6 hs6))
          have HNEXT:=Lib.hid (HRT.out.step HC0.out.2 HTX2.out HNB.out HCA.out.1 HCA.out.2.2 HDY.out (HX5.out.2.2.1.drew) HM5.out.2.2.2.1 HM5.out.2.1 ((Upd.refl [] wf).drew) HM6.out.1 HM6.out.2);clear HS7 HS8 HADD HM5 HM6 HX5 HTX2 HTX HRT HN1 HN2 HN3;go_wp2_with fail
          go_roundg (C.length - (i + 1))
          case measure=>omega
          case rel=>exact ⟨i + 1,_,_,_,_,rfl,by omega,by simp,HNEXT.out⟩
        · obtain rfl:i=C.length:=by omega
          have hil:¬ ((C.length:Int) < (C.length:Int)):=by omega
          obtain ⟨D,M,st,_⟩:=hR.tx.st;rw [List.drop_length] at st;have hpe:=hR.pe;rw [List.take_length] at hpe;have HLS:Hid (RlsR b Ki q (C.flatMap fun c=>[c.lo,c.hi]) w2 Ki Ti qi wr):=⟨hR.tx.mem,st.wf.perm hpe,st.ti,KV.Le.refl _,st.pos,hR.tx.up,hR.tx.sub⟩;have HMID:=Lib.hid (And.intro st.mid (And.intro st.wf hR.nil));clear hR st hpe HT0 HR0;go_wp2_with fail
          go_loopg [119] C.length (fun gg s119 wr=>∃ (i:Nat) (K3:KV) (T3:List DM) (q3:KPtr),C.length - i=gg∧i≤C.length∧s119=.int .i64 i∧RlsR b Ki q ((C.drop i).flatMap fun c=>[c.lo,c.hi]) w2 K3 T3 q3 wr∧(i=0→K3=Ki))
          case atStart=>exact ⟨0,Ki,Ti,qi,by omega,by omega,rfl,HLS.out,fun _=>rfl⟩
          case round =>
            clear HLS;obtain ⟨i,K3,T3,q3,rfl,hi,rfl,hR,hi0⟩:=hrel;have HI0:=Lib.hid hi0;clear hi0
            by_cases hlt:i < C.length
            · obtain ⟨c,hc⟩ : ∃ c,C[i]?=some c:=⟨_,List.getElem?_eq_getElem hlt⟩
              have hrow:=HKE.out wr hR.up;obtain ⟨gc,rfl⟩:=row_some hrow (by omega);have hg:=flatC_get x C i c hc;have c0:=row_cell hrow (j:=i * 8 + 0) (u:=.int .u32 c.r) (by rw [hg 0 (by omega)]; rfl);have c1:=row_cell hrow (j:=i * 8 + 1) (u:=.int .i64 x) (by rw [hg 1 (by omega)]; rfl);have c2:=row_cell hrow (j:=i * 8 + 2) (u:=.int .u32 c.lo) (by rw [hg 2 (by omega)]; rfl);have c3:=row_cell hrow (j:=i * 8 + 3) (u:=.int .u32 c.hi) (by rw [hg 3 (by omega)]; rfl);have c4:=row_cell hrow (j:=i * 8 + 4) (u:=.int .u32 c.a00) (by rw [hg 4 (by omega)]; rfl);have c5:=row_cell hrow (j:=i * 8 + 5) (u:=.int .u32 c.a01) (by rw [hg 5 (by omega)]; rfl);have c6:=row_cell hrow (j:=i * 8 + 6) (u:=.int .u32 c.a10) (by rw [hg 6 (by omega)]; rfl);have c7:=row_cell hrow (j:=i * 8 + 7) (u:=.int .u32 c.a11) (by rw [hg 7 (by omega)]; rfl);rw [Nat.add_zero] at c0
              have hil:(i:Int) < (C.length:Int):=by omega
              have hbx:=heap_alloc_new wr (.cells #[.int .u32 c.r,.int .i64 x,.int .u32 c.lo,.int .u32 c.hi,.int .u32 c.a00,.int .u32 c.a01,.int .u32 c.a10,.int .u32 c.a11] 276 (0,0));have hu0:=(Upd.refl [] wr).alloc (.cells #[.int .u32 c.r,.int .i64 x,.int .u32 c.lo,.int .u32 c.hi,.int .u32 c.a00,.int .u32 c.a01,.int .u32 c.a10,.int .u32 c.a11] 276 (0,0))
              have hbn:wr.heap.size∉q3.all b:=fun hm=>by have:=hR.mem.lt _ hm; omega
              have hcl:((C.drop (i + 1)).flatMap fun c=>[c.lo,c.hi]).length≤3000000:=by rw [flat2_len,List.length_drop]; omega
              rw [(split_at hc).1,List.flatMap_cons] at hR
              have HRL:Hid (∀ z:World,Upd [] wr z→Calls Tryz.prog 210 #[.pointer (some ⟨b,0,none⟩),.int .u32 c.lo] z fun e w'=>e=.returned (.tuple #[])∧∃ K' T' q',RlsR b Ki q (c.hi :: (C.drop (i + 1)).flatMap fun c=>[c.lo,c.hi]) w2 K' T' q' w'∧Upd (q3.all b) z w'∧Sub (q3.all b) z (q'.all b)):=fun z u=>(hR.keep0 u).call (by show (c.hi :: (C.drop (i + 1)).flatMap fun c=>[c.lo,c.hi]).length≤_; rw [List.length_cons]; omega)
              have hsz:wr.heap.size < (wr.alloc (.cells #[.int .u32 c.r,.int .i64 x,.int .u32 c.lo,.int .u32 c.hi,.int .u32 c.a00,.int .u32 c.a01,.int .u32 c.a10,.int .u32 c.a11] 276 (0,0))).heap.size:=by rw [World.size_alloc]; omega
              clear hR hrow hg hc;go_wp2_with fail;obtain ⟨W1,hW1⟩ : ∃ W1,wr.alloc (.cells #[.int .u32 c.r,.int .i64 x,.int .u32 c.lo,.int .u32 c.hi,.int .u32 c.a00,.int .u32 c.a01,.int .u32 c.a10,.int .u32 c.a11] 276 (0,0))=W1:=⟨_,rfl⟩;rw [hW1] at hbx hu0 hsz ⊢;generalize wr.heap.size=sz at *;have HU0:=Lib.hid hu0;have HBX:=Lib.hid hbx;have HBN:=Lib.hid hbn
              have HS1:Hid (∀ z:World,Upd [] W1 z→z.cell? ⟨sz,2,none⟩=some (.int .u32 c.lo)):=fun z u=>u.cellK (box8 HBX.out).2.1
              clear c0 c1 c2 c3 c4 c5 c6 c7 hbx hu0 hbn hW1
              go_region_held3 (fun z=>z.cell? ⟨sz,2,none⟩=some (.int .u32 c.lo)) (first | exact HS1.out _ (Upd.refl _ _).drew | exact HS1.out _ (Upd.refl _ _) | exact HS2.out) (first | (go_at_call 210; refine (HRL.out _ (by first | exact HU0.out.drew | exact HU0.out)).mono ?_; rintro e wa ⟨rfl,K4,T4,q4,r4,u4,s4⟩; have hBa:wa.heap[sz]?=some (.cells #[.int .u32 c.r,.int .i64 x,.int .u32 c.lo,.int .u32 c.hi,.int .u32 c.a00,.int .u32 c.a01,.int .u32 c.a10,.int .u32 c.a11] 276 (0,0)):=(u4.block sz hsz HBN.out).trans HBX.out; have HS2:Hid (wa.cell? ⟨sz,2,none⟩=some (.int .u32 c.lo)):=(box8 hBa).2.1; have HBa:=Lib.hid hBa; have HR4:=Lib.hid (And.intro r4 (And.intro u4 s4)); clear r4 u4 s4 hBa))
              clear HS1 HS2 HRL;go_wp2_with fail
              have HS3:Hid (∀ z:World,Upd [] wa z→z.cell? ⟨sz,3,none⟩=some (.int .u32 c.hi)):=fun z u=>u.cellK (box8 HBa.out).2.2.1
              have HRL:Hid (∀ z:World,Upd [] wa z→Calls Tryz.prog 210 #[.pointer (some ⟨b,0,none⟩),.int .u32 c.hi] z fun e w'=>e=.returned (.tuple #[])∧∃ K' T' q',RlsR b Ki q ((C.drop (i + 1)).flatMap fun c=>[c.lo,c.hi]) w2 K' T' q' w'∧Upd (q4.all b) z w'∧Sub (q4.all b) z (q'.all b)):=fun z u=>(HR4.out.1.keep0 u).call (by omega)
              have hsz2:sz < wa.heap.size:=heap_lt HBa.out;have HN4:Hid (sz∉q4.all b):=HR4.out.2.2.up HBN.out hsz
              go_region_held3 (fun z=>z.cell? ⟨sz,3,none⟩=some (.int .u32 c.hi)) (first | exact HS3.out _ (Upd.refl _ _).drew | exact HS3.out _ (Upd.refl _ _) | exact HS4.out) (first | (go_at_call 210; refine (HRL.out _ (by first | exact (Upd.refl _ _).drew | exact (Upd.refl _ _))).mono ?_; rintro e wb ⟨rfl,K5,T5,q5,r5,u5,s5'⟩; have hBb:wb.heap[sz]?=some (.cells #[.int .u32 c.r,.int .i64 x,.int .u32 c.lo,.int .u32 c.hi,.int .u32 c.a00,.int .u32 c.a01,.int .u32 c.a10,.int .u32 c.a11] 276 (0,0)):=(u5.block sz hsz2 HN4.out).trans HBa.out; have HS4:Hid (wb.cell? ⟨sz,3,none⟩=some (.int .u32 c.hi)):=(box8 hBb).2.2.1; have HR5:=Lib.hid r5; clear r5 u5 s5' hBb))
              clear HS3 HS4 HRL HR4;go_wp2_with fail
              go_roundg (C.length - (i + 1))
              case measure=>omega
              case rel=>exact ⟨i + 1,K5,T5,q5,rfl,by omega,by simp,HR5.out,fun h=>by omega⟩
            · obtain rfl:i=C.length:=by omega
              have hil:¬ ((C.length:Int) < (C.length:Int)):=by omega
              rw [List.drop_length,List.flatMap_nil] at hR;obtain ⟨hok3,hex⟩:=Exch.of HNB.out HMID.out.1 HMID.out.2.1 hR.le hR.wf hR.pos;have hm:=hR.mem;have ho3:K3.order=K.order:=hR.le.od.trans HMID.out.1.od;have hl3:K3.level=K.level:=hR.le.lv.trans HMID.out.1.lv;have hos:=hm.os;have hls:=hm.ls;rw [ho3] at hos;rw [hl3] at hls;obtain ⟨go3,co3,hqo,_,_⟩:=hos.form (by omega);obtain ⟨gl3,cl3,hql,_,_⟩:=hls.form (by omega);rw [hqo] at hos;rw [hql] at hls
              have b5:wr.cell? ⟨b,5,none⟩=some (.slice (some ⟨go3,0,none⟩) K.order.length co3):=by rw [← hqo]; exact cell_at hm.blk rfl
              have b6:wr.cell? ⟨b,6,none⟩=some (.slice (some ⟨gl3,0,none⟩) K.level.length cl3):=by rw [← hql]; exact cell_at hm.blk rfl
              have o0:wr.cell? ⟨go3,l,none⟩=some (.int .i64 (K.order.getD l 0:Nat)):=rowN_cell hos (by omega);have o1:wr.cell? ⟨go3,l + 1,none⟩=some (.int .i64 (K.order.getD (l + 1) 0:Nat)):=rowN_cell hos (by omega);have l0:wr.cell? ⟨gl3,x,none⟩=some (.int .i64 (K.lev x:Nat)):=rowN_cell hls (by omega);have l1:wr.cell? ⟨gl3,y,none⟩=some (.int .i64 (K.lev y:Nat)):=rowN_cell hls (by omega);have f0:=row_frozen hos l;have f1:=row_frozen hos (l + 1);have g0:=row_frozen hls x;have g1:=row_frozen hls y
              have hxl:(x:Int) < (K.level.length:Int):=by omega
              have hyl:(y:Int) < (K.level.length:Int):=by omega
              have hgo:go3≠gl3:=by
                rintro rfl;have e1:=hm.oo go3 (by rw [hqo]; rfl);have e2:=hm.ol go3 (by rw [hql]; rfl);omega
              have hbo:b≠go3:=by
                rintro rfl;have e1:=hm.oo b (by rw [hqo]; rfl);have e2:=hm.ob;omega
              have hbl:b≠gl3:=by
                rintro rfl;have e1:=hm.ol b (by rw [hql]; rfl);have e2:=hm.ob;omega
              have hxy:x≠y:=HNB.out.facts.2.2.2.2
              have HE:Hid (KTurnQ b l K q w (.returned (.bool true)) ((((wr.setCell ⟨go3,l,none⟩ (.int .i64 y)).setCell ⟨go3,l + 1,none⟩ (.int .i64 x)).setCell ⟨gl3,x,none⟩ (.int .i64 ((l:Int) + 1))).setCell ⟨gl3,y,none⟩ (.int .i64 l)).drew.drew):=by
                have hE:=turn_end (l:=l) hm hqo hql (by rw [ho3]; omega) (by rw [ho3]; omega) (by rw [ho3,hl3,HXY.out.1]; omega) (by rw [ho3,hl3,HXY.out.2]; omega);rw [ho3,HXY.out.1,HXY.out.2] at hE;refine ⟨C,N,by rw [HXY.out.1,HXY.out.2]; exact HCA.out.1,by rw [HXY.out.1]; exact HCA.out.2.2,.inr ⟨rfl,hroom.out,K3.swapK l,T3,q3,hex,fun e=>?_,⟨hE.1,hR.ti.same rfl rfl,hok3⟩,((HU2.out.mono (by simp)).trans hR.up).then hE.2 fun k hk=>?_,fun k hk=>?_⟩⟩
                · rw [HI0.out (by rw [e]; rfl),HMID.out.2.2 e]
                · rcases hR.sub k hk with h | h
                  · exact .inl h
                  · have:=HU2.out.size; right; omega
                · rcases hR.sub k hk with h | h
                  · exact .inl h
                  · have:=HU2.out.size; right; omega
              rw [HXY.out.1] at o0;rw [HXY.out.2] at o1;clear hR hok3 hex hm ho3 hl3 hos hls hqo hql;go_wp2_with fail
              go_region
              go_wp2_with fail
              go_region
              go_wp2_with fail;go_ret;exact HE.out
end Go.Proofs.YtpfafhmkbcahhaaGreat
