import Derived.Test.YtpfafhmkbcahhaaGreatKA23
import Derived.Test.YtpfafhmkbcahhaaGreatKA21
import Derived.Deep.RegionLaw
import Derived.Deep.AppendLies
set_option maxRecDepth 100000
set_option maxHeartbeats 3200000
namespace Go.Proofs.YtpfafhmkbcahhaaGreat
open Go.RowKit Go.Maps Go.ChangeMaps Go.WideShapes
theorem FoldS.start {b op:Nat} {K0 K1:KV} {F0 F1:List Nat} {M0:MV} {tabs:List TV} {s:Bool} {w0 w1 w2:World} (hn:K0.vars<=16) (u0:Upd [] w0 w1) (k1:KerAt w2 b K1 F1) (m1:KM K1 { M0 with trail:=[] }) (x:K0.Ext K1) (hd:∀ x,K1.hold x=K0.hold x) (u:Upd F0 w1 w2) (sb:Sub F0 w1 F1) :
  FoldS w0 b op K0 F0 M0 tabs s 0 (if s then 1 else 0) 0 w2:=by
 refine ⟨K1,F1,{ M0 with trail:=[] },constT K0.vars s,k1,m1,rfl,x,(u0.mono (by simp)).trans u,fun k hk=>?_,.inl ⟨rfl,rfl,const_names k1.ok s,mkT_ok _ hn,rfl,fun y=>?_⟩⟩
 ·rcases sb k hk with h | h
  ·exact .inl h
  ·right;have:=u0.size;omega
 ·rw [hd,if_neg]
  ·rfl
  ·rintro ⟨_,h2⟩;cases s <;> simp at h2
theorem fold_km (b op n0:Nat) (s:Bool) (lv:Value) (fs:List Nat) (tabs:List TV) (K:KV) (F:List Nat) (M:MV) (w:World) (h:KerAt w b K F) (hm:KM K M) (ho:op<=15) (hlv:w.ownsRow n0 54 1 lv fs.length (flatRefs fs)) (hF:∀ k,lv.ownBlock=some k->k∉F)
  (hlen:fs.length=tabs.length) (hl1:fs.length<=1000) (hnm:∀ (i f:Nat) (t:TV),fs[i]?=some f->tabs[i]?=some t->Names K f t) (htn:∀ t,t∈tabs->t.n=K.vars) (hl:M.held.length+2<=65536) :
  Calls Tryz.prog 188 #[.pointer (some ⟨b,0,none⟩),lv,.int .u8 op,.bool s] w fun e w'=>FoldP b op K F M tabs s w e w':=by
 have hn16:=hm.n16;obtain ⟨la,lc,rfl,_⟩:=row_nil_len hlv
 have HB:Hid (Calls Tryz.prog 182 #[.pointer (some ⟨b,0,none⟩),.slice la fs.length lc] w fun e w'=>(∃ wb:Nat,e=.returned (.tuple #[.pointer (some ⟨wb,0,none⟩),.int .i64 0]))/\Upd [] w w'):=by
  obtain ⟨T,q,hki,rfl⟩:=h;refine (begin_ok b K T q _ fs w hki (row_base hlv (Nat.zero_le _)) (fun r hr=>?_) (by omega)).mono ?_
  ·obtain ⟨i,hi⟩:=List.mem_iff_getElem?.1 hr
   have hil:=(List.getElem?_eq_some_iff.1 hi).1;exact (hnm i r (tabs[i]'(by omega)) hi (List.getElem?_eq_getElem (by omega))).1
  ·rintro e w' ⟨wb,lvv,rfl,_,u,_⟩
   exact ⟨⟨wb,rfl⟩,u⟩
 have HC:Hid (∀ z,Upd [] w z->Calls Tryz.prog 109 #[.pointer (some ⟨b,0,none⟩),.bool s] z fun e w'=>ConstP b K F M s z e w'):=fun z u=>const_km b s K F M z (h.upd u (by simp)) hm
 have HS:Hid (∀ (i r f:Nat) (t:TV) z,FoldS w b op K F M tabs s i r 0 z->fs[i]?=some f->tabs[i]?=some t->Calls Tryz.prog 112 #[.pointer (some ⟨b,0,none⟩),.int .u8 op,.int .u32 r,.int .u32 f] z fun e w'=>FStep w b op K F M tabs s i r z e w'):=fun i r f t z hz h1 h2 =>
  hz.step ho h hm hl h2 (hnm i f t h1 h2) (htn t (List.mem_of_getElem? h2))
 have HR:=Lib.hid (And.intro hlv (And.intro hF hlen));clear h hm hlv hF hnm htn hl hlen
 go_enter Tryz.func188,Tryz.ntmps188
 go_wp2_with fail;refine HB.out.mono ?_;rintro e w1 ⟨⟨wb,rfl⟩,hu⟩;have HU1:=Lib.hid hu;clear hu;go_wp2_with fail;refine (HC.out _ HU1.out).mono ?_;rintro e w2 hP;obtain ⟨K1,F1,rfl,k1,k2,k3,k4,k5,k6⟩:=hP.ex;have HF0:Hid (FoldS w b op K F M tabs s 0 (if s then 1 else 0) 0 w2):=FoldS.start hn16 HU1.out k1 k2 k3 k4 k5 k6;generalize (if s then 1 else 0:Nat)=r0 at *;clear hP k1 k2 k3 k4 k5 k6;go_wp2_with fail
 go_loopg [12,13,34] fs.length (fun gg s12 s13 s34 wr=>∃ (i r:Nat) (e:Int),fs.length-i=gg/\i<=fs.length/\s12=.int .u32 r/\s13=.int .i64 e/\s34=.int .i64 i/\FoldS w b op K F M tabs s i r e wr)
 case atStart=>exact ⟨0,r0,0,by omega,by omega,rfl,rfl,rfl,HF0.out⟩
 case round =>
  obtain ⟨i,r,e,rfl,hi,rfl,rfl,rfl,hS⟩:=hrel
  by_cases hlt:i<fs.length
  ·have hil:(i:Int)<(fs.length:Int):=by omega
   obtain ⟨f,hf⟩ : ∃ f,fs[i]?=some f:=⟨_,List.getElem?_eq_getElem hlt⟩;obtain ⟨t,ht⟩ : ∃ t,tabs[i]?=some t:=⟨_,List.getElem?_eq_getElem (by rw [<- HR.out.2.2];exact hlt)⟩;obtain ⟨g,rfl⟩:=row_some HR.out.1 (by omega)
   have hU:Upd F w wr:=by obtain ⟨_,_,_,_,_,_,_,_,u,_⟩:=hS.ex;exact u
   have hrow:=row_keep HR.out.1 fun k hk=>hU.block k (HR.out.1.lt k hk).2 (HR.out.2.1 k hk)
   have cf:=row_cell hrow (j:=i) (u:=.int .u32 (f:Nat)) (by simp [flatRefs,hf])
   by_cases he:e=0
   ·subst he
    have HST:=Lib.hid (HS.out i r f t wr hS hf ht);clear hS hf ht hU hrow;go_wp2_with fail;refine HST.out.mono ?_;rintro e1 w3 hP;obtain ⟨r1,code,rfl,hD⟩:=hP.ex;have HD:=Lib.hid hD;clear hP hD cf;go_wp2_with fail;refine HD.out.mono ?_;rintro e2 w4 ⟨rfl,hS⟩;have HS4:=Lib.hid hS;clear hS;go_wp2_with fail
    go_roundg (fs.length-(i+1))
    case measure=>omega
    case rel=>exact ⟨i+1,r1,code,rfl,by omega,rfl,rfl,by simp,HS4.out⟩
   ·have he2:(e == 0)=false:=by simpa using he
    have HSS:=Lib.hid (hS.stop (j:=tabs.length) he);clear hS hf ht hU hrow;go_wp2_with fail;go_ret2;exact ⟨0,e,rfl,HSS.out⟩
  ·obtain rfl:i=fs.length:=by omega
   have hil:¬ (fs.length:Int)<(fs.length:Int):=by omega
   by_cases he:e=0
   ·subst he
    have HSS:Hid (FoldS w b op K F M tabs s tabs.length r 0 wr):=by rw [<- HR.out.2.2];exact hS
    clear hS;go_wp2_with fail;go_ret2;exact ⟨r,0,rfl,HSS.out⟩
   ·have he2:(e == 0)=false:=by simpa using he
    have HSS:=Lib.hid (hS.stop (j:=tabs.length) he);clear hS;go_wp2_with fail;go_ret2;exact ⟨0,e,rfl,HSS.out⟩
theorem all_km (b n0:Nat) (lv:Value) (fs:List Nat) (tabs:List TV) (K:KV) (F:List Nat) (M:MV) (w:World) (h:KerAt w b K F) (hm:KM K M) (hlv:w.ownsRow n0 54 1 lv fs.length (flatRefs fs)) (hF:∀ k,lv.ownBlock=some k->k∉F)
  (hlen:fs.length=tabs.length) (hl1:fs.length<=1000) (hnm:∀ (i f:Nat) (t:TV),fs[i]?=some f->tabs[i]?=some t->Names K f t) (htn:∀ t,t∈tabs->t.n=K.vars) (hl:M.held.length+2<=65536) :
  Calls Tryz.prog 113 #[.pointer (some ⟨b,0,none⟩),lv] w fun e w'=>FoldP b 8 K F M tabs true w e w':=by
 have H:=Lib.hid (fold_km b 8 n0 true lv fs tabs K F M w h hm (by omega) hlv hF hlen hl1 hnm htn hl);clear h hm hlv hF hlen hl1 hnm htn hl
 go_enter Tryz.func113,Tryz.ntmps113
 go_wp2_with fail;refine H.out.mono ?_;rintro e w' hP;obtain ⟨r,e1,rfl,hS⟩:=hP.ex;have HS:=Lib.hid hS;clear hP hS;go_wp2_with fail;go_ret2;exact ⟨r,e1,rfl,HS.out⟩
theorem any_km (b n0:Nat) (lv:Value) (fs:List Nat) (tabs:List TV) (K:KV) (F:List Nat) (M:MV) (w:World) (h:KerAt w b K F) (hm:KM K M) (hlv:w.ownsRow n0 54 1 lv fs.length (flatRefs fs)) (hF:∀ k,lv.ownBlock=some k->k∉F)
  (hlen:fs.length=tabs.length) (hl1:fs.length<=1000) (hnm:∀ (i f:Nat) (t:TV),fs[i]?=some f->tabs[i]?=some t->Names K f t) (htn:∀ t,t∈tabs->t.n=K.vars) (hl:M.held.length+2<=65536) :
  Calls Tryz.prog 114 #[.pointer (some ⟨b,0,none⟩),lv] w fun e w'=>FoldP b 14 K F M tabs false w e w':=by
 have H:=Lib.hid (fold_km b 14 n0 false lv fs tabs K F M w h hm (by omega) hlv hF hlen hl1 hnm htn hl);clear h hm hlv hF hlen hl1 hnm htn hl
 go_enter Tryz.func114,Tryz.ntmps114
 go_wp2_with fail;refine H.out.mono ?_;rintro e w' hP;obtain ⟨r,e1,rfl,hS⟩:=hP.ex;have HS:=Lib.hid hS;clear hP hS;go_wp2_with fail;go_ret2;exact ⟨r,e1,rfl,HS.out⟩
theorem rbinary_spec (op:Nat) (Z:List Nat) (cf cg:Value) (f g:TV) (w:World) (hf:TIn w Z cf f) (hg:TIn w Z cg g) (hn:g.n=f.n) (hop:op<=15) :
  Calls Tryz.prog 192 #[.int .u8 op,tabV f cf,tabV g cg] w fun e w'=>TabQ (binT op f g) w e w':=by
 obtain ⟨i2,hi2,hz2,hs2,hb2⟩:=info_parts Tryz.infoBoolR;have HI:=Lib.hid (And.intro hi2 (And.intro hz2 (And.intro hs2 hb2)));obtain ⟨fa,fc,rfl,_⟩:=row_nil_len hf.row;obtain ⟨ga,gc,rfl,_⟩:=row_nil_len hg.row;have hn16:=hf.ok.n16;obtain ⟨n,hfn⟩ : ∃ n,f.n=n:=⟨_,rfl⟩;rw [hfn] at hn hn16;have h16:(2:Nat) ^ n<=2 ^ 16:=Nat.pow_le_pow_right (by omega) hn16
 have hn64:(n:Int)<64:=by omega
 have hsh:wrap64 (2 ^ n)=((2 ^ n:Nat):Int):=by
  have h2:((2:Int) ^ n)=((2 ^ n:Nat):Int):=by push_cast;rfl
  rw [h2];generalize (2:Nat) ^ n=z at h16
  unfold wrap64;omega
 obtain ⟨m,hm⟩ : ∃ m,2 ^ n=m:=⟨_,rfl⟩;rw [hm] at h16 hsh;have HMN:=Lib.hid (And.intro hm (And.intro hn16 hsh));obtain ⟨B,hB⟩ : ∃ B:Nat->Bool,(fun x=>opB op (f.bit x) (g.bit x))=B:=⟨_,rfl⟩
 have hbin:binT op f g=mkT n B:=by unfold binT;rw [hB,hfn]
 rw [hbin];unfold tabV;rw [hfn,hn]
 have HFT:Hid (∀ z,Upd [] w z->(∀ x,x<m->Calls Tryz.prog 169 #[.agg #[.int .i64 n,.slice fa f.ws.length fc],.int .i64 x] z fun e w'=>e=.returned (.bool (f.bit x))/\Upd [] z w') /\
   ∀ x,x<m->Calls Tryz.prog 169 #[.agg #[.int .i64 n,.slice ga g.ws.length gc],.int .i64 x] z fun e w'=>e=.returned (.bool (g.bit x))/\Upd [] z w'):=fun z u=>by
  refine ⟨fun x hx=>?_,fun x hx=>?_⟩
  ·have:=tbit_spec Z _ f x z (hf.keep0 u) (by rw [hfn,hm];exact hx)
   unfold tabV at this;rw [hfn] at this;exact this
  ·have:=tbit_spec Z _ g x z (hg.keep0 u) (by rw [hn,hm];exact hx)
   unfold tabV at this;rw [hn] at this;exact this
 have HBX:Hid (∀ x,B x=opB op (f.bit x) (g.bit x)):=fun x=>by rw [<- hB]
 generalize f.ws.length=fl at *;generalize g.ws.length=gl at *;have hu0:Upd [] w ((w.alloc (.cells #[.int .i64 n,.slice fa fl fc] 56 (0,0))).alloc (.cells #[.int .i64 n,.slice ga gl gc] 56 (0,0))):=((Upd.refl [] w).alloc _).alloc _
 have hs0:((w.alloc (.cells #[.int .i64 n,.slice fa fl fc] 56 (0,0))).alloc (.cells #[.int .i64 n,.slice ga gl gc] 56 (0,0))).heap.size=w.heap.size+1+1:=by rw [World.size_alloc,World.size_alloc]
 have hb1:((w.alloc (.cells #[.int .i64 n,.slice fa fl fc] 56 (0,0))).alloc (.cells #[.int .i64 n,.slice ga gl gc] 56 (0,0))).heap[w.heap.size]?=some (.cells #[.int .i64 n,.slice fa fl fc] 56 (0,0)):=by
  rw [heap_alloc_old _ _ (by rw [World.size_alloc];omega)];exact heap_alloc_new _ _
 have hb2':((w.alloc (.cells #[.int .i64 n,.slice fa fl fc] 56 (0,0))).alloc (.cells #[.int .i64 n,.slice ga gl gc] 56 (0,0))).heap[w.heap.size+1]?=some (.cells #[.int .i64 n,.slice ga gl gc] 56 (0,0)):=by
  have:=heap_alloc_new (w.alloc (.cells #[.int .i64 n,.slice fa fl fc] 56 (0,0))) (.cells #[.int .i64 n,.slice ga gl gc] 56 (0,0))
  rw [World.size_alloc] at this;exact this
 clear hf hg hi2 hz2 hs2 hb2 hm hfn hn hn16 hsh hB hbin
 go_enter Tryz.func192,Tryz.ntmps192
 obtain ⟨w0,hw0⟩ : ∃ w0,(w.alloc (.cells #[.int .i64 n,.slice fa fl fc] 56 (0,0))).alloc (.cells #[.int .i64 n,.slice ga gl gc] 56 (0,0))=w0:=⟨_,rfl⟩;go_upto_region 1 with fail;rw [hw0] at hu0 hb1 hb2';obtain ⟨R,hR⟩ : ∃ R,w0.heap.size=R:=⟨_,rfl⟩;rw [hR];have HZ:=Lib.hid (heap_alloc_new w0 (.cells #[.int .i64 0,.slice none 0 0] 56 (0,0)))
 have hx:∀ z,Upd [] w0 z->z.cell? ⟨w.heap.size,0,none⟩=some (.int .i64 n)/\z.cell? ⟨w.heap.size,1,none⟩=some (.slice fa fl fc)/\z.cell? ⟨w.heap.size+1,0,none⟩=some (.int .i64 n)/\z.cell? ⟨w.heap.size+1,1,none⟩=some (.slice ga gl gc):=fun z u =>
  ⟨u.cell0 (cell_at (j:=0) hb1 rfl),u.cell0 (cell_at (j:=1) hb1 rfl),u.cell0 (cell_at (j:=0) hb2' rfl),u.cell0 (cell_at (j:=1) hb2' rfl)⟩
 have HX:=Lib.hid hx;have HU0:=Lib.hid hu0;have HS0:Hid (w0.heap.size=R/\w.heap.size<=R):=⟨hR,by rw [<- hR];exact hu0.size⟩;obtain ⟨x0,x1,x2,x3⟩:=HX.out _ ((Upd.refl [] w0).alloc (.cells #[.int .i64 0,.slice none 0 0] 56 (0,0)));clear hx hu0 hs0 hb1 hb2' hw0 hR;generalize w.heap.size+1=b2 at *;generalize hb1:w.heap.size=b1 at *;have HB1:=Lib.hid hb1;clear hb1
 go_wp2_with (refine wpList_make_full _ rfl (.tmp 12) (.tmp 12) 99 rfl R 4 i2 (.bool false) 1 Tryz.underlying99 HI.out.1 HI.out.2.1 HI.out.2.2.1 .i64 .i64 _ _ m rfl rfl HMN.out.2.2 HMN.out.2.2 (by rw [HI.out.2.2.2];omega) (by unfold maxLen;omega) (by rw [World.size_alloc,HS0.out.1];omega) ?_)
 intro w2 ho hgr
 have hsz:(w0.alloc (.cells #[.int .i64 0,.slice none 0 0] 56 (0,0))).heap.size=R+1:=by rw [World.size_alloc,HS0.out.1]
 obtain ⟨g0,hg⟩ : ∃ g0,w0.heap.size+1=g0:=⟨_,rfl⟩;rw [hg] at ho;rw [hg]
 have hg0R:g0≠R:=by have:=HS0.out.1;omega
 have HM0:Hid (BoolsM w0 g0 R m (boolsI B m 0) w2):=by
  have hu:Upd [] w0 w2:=((Upd.refl [] w0).alloc _).grown hgr (by simp)
  have er:(w2.heap[R]?)=some (.cells #[.int .i64 0,.slice none 0 0] 56 (0,0)):=by
   rw [hgr.block R (by rw [hsz];omega) (by simp)];have:=HZ.out;rw [HS0.out.1] at this;exact this
  refine ⟨?_,er,hu,by rw [HS0.out.1];exact Nat.le_refl _,hg0R⟩;rw [boolsI_zero]
  have e:(List.replicate m false).map Value.bool=(madeCells #[Value.bool false] m).toList:=by
   rw [List.map_replicate];exact (madeB m).symm
  rw [e,HS0.out.1];exact ho
 clear ho hgr hsz hg x0 x1 x2 x3;go_wp2_with fail
 go_loopg [16] m (fun gg s16 wr=>∃ x:Nat,m-x=gg/\x<=m/\s16=.int .i64 x/\BoolsM w0 g0 R m (boolsI B m x) wr)
 case atStart=>exact ⟨0,by omega,by omega,rfl,HM0.out⟩
 case round =>
  obtain ⟨x,rfl,hx,rfl,hM⟩:=hrel;have hup:=hM.up;obtain ⟨x0,x1,x2,x3⟩:=HX.out _ hup
  by_cases hlt:x<m
  ·have hil:(x:Int)<(m:Int):=by omega
   obtain ⟨hbf,hbg⟩:=HFT.out wr (HU0.out.trans hup);have HBF:=Lib.hid (hbf x hlt)
   have HBG:Hid (∀ z,Upd [] wr z->Calls Tryz.prog 169 #[.agg #[.int .i64 n,.slice ga gl gc],.int .i64 x] z fun e w'=>e=.returned (.bool (g.bit x))/\Upd [] z w'):=fun z u=>(HFT.out z (HU0.out.trans (hup.trans u))).2 x hlt
   have hBx:=HBX.out x;have HM:=Lib.hid hM;have HUP:=Lib.hid hup;have HBXX:=Lib.hid hBx;clear hM hbf hbg hBx hup;obtain ⟨bf,hbfe⟩ : ∃ bf,f.bit x=bf:=⟨_,rfl⟩;obtain ⟨bg,hbge⟩ : ∃ bg,g.bit x=bg:=⟨_,rfl⟩;rw [hbfe] at HBF HBXX;rw [hbge] at HBG HBXX;clear hbfe hbge;go_wp2_with fail;refine HBF.out.mono ?_;rintro e w3 ⟨rfl,hu⟩;have HU3:=Lib.hid hu;obtain ⟨y0,y1,y2,y3⟩:=HX.out _ (HUP.out.trans hu);clear hu x0 x1 x2 x3;go_upto_if 21 with fail
   go_cut [9] from 22 to 23 (fun s9 wx=>s9=.int .i64 (2*(if bf then 1 else 0):Nat)/\wx=w3)
   case first =>
    cases bf with
    | true=>go_wp2_with fail;go_meet;exact ⟨rfl,rfl⟩
    | false=>go_wp2_with fail;go_meet;exact ⟨rfl,rfl⟩
   case rest =>
    obtain ⟨rfl,rfl⟩:=hcut;generalize hwq:wc=wq at *;clear hwq;obtain ⟨c2,hc2⟩ : ∃ c2:Nat,2*(if bf then 1 else 0)=c2:=⟨_,rfl⟩;rw [hc2]
    have hc22:c2<=2:=by rw [<- hc2];cases bf <;> simp
    go_wp2_with fail;refine (HBG.out _ HU3.out).mono ?_;rintro e w4 ⟨rfl,hu4⟩;have HU4:=Lib.hid (HU3.out.trans hu4);clear hu4 y0 y1 y2 y3;go_upto_if 26 with fail
    go_cut [9] from 27 to 28 (fun s9 wx=>s9=.int .i64 (c2+(if bg then 1 else 0):Nat)/\wx=w4)
    case first =>
     cases bg with
     | true=>go_wp2_with fail;go_meet;exact ⟨rfl,rfl⟩
     | false=>go_wp2_with fail;go_meet;exact ⟨rfl,rfl⟩
    case rest =>
    obtain ⟨rfl,rfl⟩:=hcut;have hu:=HU4.out;rw [<- hc2];clear hc2 hc22;obtain ⟨ix,hix⟩ : ∃ ix:Nat,(2*(if bf then 1 else 0)+(if bg then 1 else 0))=ix:=⟨_,rfl⟩
    have hix3:ix<=3:=by rw [<- hix];cases bf <;> cases bg <;> simp
    have hbit:opB op bf bg=op.testBit ix:=by unfold opB;rw [hix]
    rw [hix]
    have hr2:wc.ownsRow w0.heap.size 4 1 (.slice (some ⟨g0,0,none⟩) m m) m ((boolsI B m x).map Value.bool):=row_keep HM.out.row fun k hk=>hu.block k (HM.out.row.lt k hk).2 (by simp)
    have hM2:BoolsM w0 g0 R m (boolsI B m x) wc:=⟨hr2,(hu.block R (heap_lt HM.out.rs) (by simp)).trans HM.out.rs,HM.out.up.trans hu,HM.out.bw⟩
    have e0:(boolsI B m x)[x]?=some ((boolsI B m x).getD x false):=by rw [List.getD_eq_getElem?_getD,List.getElem?_eq_getElem (by rw [boolsI_len];exact hlt)];rfl
    have cx:=row_cell hr2 (j:=x) (u:=.bool ((boolsI B m x).getD x false)) (by rw [List.getElem?_map,e0];rfl);have fx:=row_frozen hr2 x;have hset:=hM2.set hlt (B x);rw [boolsI_set _ hlt,HBXX.out,hbit] at hset;have HE:=Lib.hid hset
    have hi64:(ix:Int)<64:=by omega
    have hi8:(ix:Int)<8:=by omega
    have HBT:Hid ((((op:Int)/2 ^ ix).tmod 2 == 1)=op.testBit ix):=by
     show _=_
     have:=bit_tmod (x:=(op:Int)) (by unfold U64;omega) ix;rw [this,nb_cast]
    clear hM2 hset e0 hr2 hix hbit hu HBXX;go_wp2_with fail
    go_roundg (m-(x+1))
    case measure=>omega
    case rel=>exact ⟨x+1,rfl,by omega,by simp,by rw [<- HBT.out] at HE;exact HE.out⟩
  ·obtain rfl:x=m:=by omega
   have hil:¬ ((x:Int)<(x:Int)):=by omega
   have HM:=Lib.hid hM
   have hrow:wr.ownsRow w0.heap.size 4 1 (.slice (some ⟨g0,0,none⟩) x x) (boolsI B x x).length ((boolsI B x x).map Value.bool):=by rw [boolsI_len];exact hM.row
   have HRW:=Lib.hid hrow;clear hM hrow hup;go_wp2_with fail;refine (tfill_spec n (boolsI B x x) _ w0.heap.size wr HRW.out HMN.out.2.1 (by rw [boolsI_len,HMN.out.1];omega)).mono ?_;rintro e w3 hE;obtain ⟨c,rfl,hT,hu⟩:=hE.ex;rw [mkT_bools n x HMN.out.1] at hT;have hsz:=HM.out.up.size;have hrs:=(hu.block R (heap_lt HM.out.rs) (by simp)).trans HM.out.rs;have z0:w3.cell? ⟨R,0,none⟩=some (.int .i64 0):=cell_at (j:=0) hrs rfl;have z1:w3.cell? ⟨R,1,none⟩=some (.slice none 0 0):=cell_at (j:=1) hrs rfl;have f0:=frozen_at 0 hrs;have f1:=frozen_at 1 hrs;obtain ⟨ca,cn,hc,_⟩:=row_nil_len hT.row;have HE:=Lib.hid (And.intro hT (And.intro (HU0.out.trans (HM.out.up.trans hu)) hrs));have HC:=Lib.hid hc;clear hE hT hu hrs hc HRW x0 x1 x2 x3
   simp only [tabV,mkT_n]
   rw [HC.out];go_wp2_with fail;obtain ⟨b0,b1⟩:=box2 HE.out.2.2 (.int .i64 n) (.slice ca (mkT n B).ws.length cn)
   have hwR:w.heap.size<=R:=by rw [HB1.out];exact HS0.out.2
   refine bodyPost_end (v:=.agg #[.int .i64 n,.slice ca (mkT n B).ws.length cn]) (by simp [results,Tryz.results192,go_sem,b0,b1]) rfl ?_;have hu:=(HE.out.2.1.setCell (p:=⟨R,0,none⟩) (.inr hwR) (.int .i64 n)).setCell (p:=⟨R,1,none⟩) (.inr hwR) (.slice ca (mkT n B).ws.length cn)
   have hne:some R≠c.ownBlock:=fun e=>by
    have h1:=(HE.out.1.row.lt R e.symm).1;have h2:=heap_lt HM.out.rs;omega
   have r1:=row_ne HE.out.1.row (a:=⟨R,0,none⟩) hne (.int .i64 n);have r2:=row_ne r1 (a:=⟨R,1,none⟩) hne (.slice ca (mkT n B).ws.length cn);exact ⟨c,by rw [HC.out];rfl,⟨HE.out.1.ok,row_base r2 (Nat.le_trans (HU0.out.trans HM.out.up).size (Nat.le_refl _))⟩,hu⟩
theorem ModE.trans {m:Nat} {M1 M2:MV} {p:MPtr} {Z:List Nat} {w w1 w2:World} (h:ModE m p Z M1 w w1) (k:∀ p1,ModIn w1 m M1 p1 (Z++p1.all m)->ModE m p1 (Z++p1.all m) M2 w1 w2):ModE m p Z M2 w w2:=by
 obtain ⟨p1,h1,u1,s1⟩:=h.ex;obtain ⟨p2,h2,u2,s2⟩:=(k p1 h1).ex;refine ⟨p2,h2.apart (fun k hk=>.inl ?_) (fun k hk=>List.mem_append.2 (.inr hk)),u1.then u2 (fun k hk=>s1 k hk),fun k hk=>?_⟩
 ·rcases List.mem_append.1 hk with h | h
  ·exact List.mem_append.2 (.inl (List.mem_append.2 (.inl h)))
  ·exact List.mem_append.2 (.inr h)
 ·rcases s2 k hk with h | h
  ·exact s1 k h
  ·right;have:=u1.size;omega
theorem ModE.notrail {m:Nat} {M:MV} {p:MPtr} {Z:List Nat} {w:World} (h:ModIn w m M p Z):ModE m p Z { M with trail:=[] } w (w.setCell ⟨m,4,none⟩ (.slice none 0 0)):=by
 have u:Upd [m] w (w.setCell ⟨m,4,none⟩ (.slice none 0 0)):=(Upd.refl _ w).setCell (p:=⟨m,4,none⟩) (.inl (by simp)) _;have hmZ:m∈Z:=h.sz _ (MPtr.mem.2 (.inl rfl))
 have key:∀ (t:TypeId),t≠90->(∃ cs fr,w.heap[m]?=some (.cells cs t fr))->False:=by
  rintro t he ⟨cs,fr,h1⟩;rw [h.blk] at h1
  injection h1 with h1
  injection h1 with _ h1 _
  exact he h1.symm
 have hsub:Sub Z w (Z++MPtr.all ⟨p.ov,p.hv,.slice none 0 0⟩ m):=fun k hk=>by
  rcases List.mem_append.1 hk with hk | hk
  ·exact .inl hk
  ·rcases MPtr.mem.1 hk with rfl | h1 | h1 | h1
   ·exact .inl hmZ
   ·exact .inl (h.sz _ (MPtr.mem.2 (.inr (.inl h1))))
   ·exact .inl (h.sz _ (MPtr.mem.2 (.inr (.inr (.inl h1)))))
   ·simp [Value.ownBlock] at h1
 refine ⟨⟨p.ov,p.hv,.slice none 0 0⟩,⟨heap_set_eq h.blk _,row_keep h.os fun k hk=>u.block k (h.os.lt k hk).2 fun hm=>?_,?_,World.ownsRow_nil _ _ _ _,fun k _ hk=>by simp [Value.ownBlock] at hk,fun k hk=>List.mem_append.2 (.inr hk)⟩,u.mono (fun k hk=>by simp at hk;subst hk;exact MPtr.mem.2 (.inl rfl)),fun k hk=>.inl ?_⟩
 ·simp at hm;subst hm;exact key _ (by decide) (row_type h.os hk)
 ·refine (h.hs.apart hsub).keep u (fun k hk=>?_) fun k hk hm=>?_
  ·simp at hk;subst hk;exact .inl (List.mem_append.2 (.inl hmZ))
  ·simp at hm;subst hm
   obtain ⟨xs,hr⟩:=h.hs.row;exact key _ (by decide) (row_type hr hk)
 ·rcases MPtr.mem.1 hk with rfl | h1 | h1 | h1
  ·exact MPtr.mem.2 (.inl rfl)
  ·exact MPtr.mem.2 (.inr (.inl h1))
  ·exact MPtr.mem.2 (.inr (.inr (.inl h1)))
  ·simp [Value.ownBlock] at h1
theorem ModE.keep {m:Nat} {M:MV} {p:MPtr} {Z:List Nat} {w w1 w2:World} (h:ModE m p Z M w w1) (u:Upd [] w1 w2):ModE m p Z M w w2:=by
 obtain ⟨p1,h1,u1,s1⟩:=h.ex;exact ⟨p1,h1.keep0 u,u1.trans (u.mono (by simp)),s1⟩
theorem ModE.pre {m:Nat} {M:MV} {p:MPtr} {Z:List Nat} {w w1 w2:World} (u:Upd [] w w1) (h:ModE m p Z M w1 w2):ModE m p Z M w w2:=by
 obtain ⟨p1,h1,u1,s1⟩:=h.ex;refine ⟨p1,h1,(u.mono (by simp)).trans u1,fun k hk=>?_⟩
 rcases s1 k hk with h | h
 ·exact .inl h
 ·right;have:=u.size;omega
theorem answer9_spec (m:Nat) (M:MV) (p:MPtr) (Z:List Nat) (c:Value) (t:TV) (w:World) (h:ModIn w m M p Z) (hZ:∀ k,k∈Z->k<w.heap.size) (hf:M.Fit) (ht:TIn w Z c t) (htn:t.n=M.n) (hm:∀ u,u∈M.held->u.2<=65535) :
  Calls Tryz.prog 94 #[.pointer (some ⟨m,0,none⟩),tabV t c] w fun e w'=>e=.returned (.int .i64 (M.ansE t))/\ModE m p Z (M.ans t) w w':=by
 obtain ⟨ta,tc,rfl,_⟩:=row_nil_len ht.row
 have HH:Hid (∀ z,Upd [] w z->Calls Tryz.prog 85 #[.pointer (some ⟨m,0,none⟩),tabV t (.slice ta t.ws.length tc)] z fun e w'=>e=.returned (.int .i64 (M.holds t:Nat))/\Upd [] z w'):=fun z u =>
  holds_spec m M p Z _ t z (h.keep0 u) (ht.keep0 u) (by have:=hf.hl;omega)
 have HFT:Hid (∀ (x:World) (B:Nat),Upd [] w x->x.heap[B]?=some (.cells #[.int .i64 t.n,.slice ta t.ws.length tc] 56 (0,0))->w.heap.size<=B->Calls Tryz.prog 159 #[.pointer (some ⟨m,0,none⟩),.slice (some ⟨B,0,none⟩) 1 1] x fun e w'=>e=.returned (.bool (M.fits [t]))/\Upd [] x w'):=fun x B u hB hs =>
  fits9_spec m 0 M p Z _ [t] x (h.keep0 u) (fun k hk=>Nat.lt_of_lt_of_le (hZ k hk) u.size) hf (TLs.one hB (ht.keep0 u) (Nat.zero_le _) (fun hk=>by have:=hZ _ hk;omega)) (fun s hs=>by simp at hs;subst hs;exact htn) (by simp)
 have H1:Hid (∀ z,Upd [] w z->Calls Tryz.prog 160 #[.pointer (some ⟨m,0,none⟩),tabV t (.slice ta t.ws.length tc)] z fun e w'=>Hold1Q m M p Z t z e w'):=fun z u =>
  hold1_spec m M p Z _ t z (h.keep0 u) (fun k hk=>Nat.lt_of_lt_of_le (hZ k hk) u.size) (ht.keep0 u) (by have:=hf.hl;omega) hm
 have HSM:Hid (∀ z,Upd [] w z->ModE m p Z M w z):=fun z u=>ModE.same h u
 obtain ⟨E,hE⟩ : ∃ E,M.ansE t=E:=⟨_,rfl⟩;obtain ⟨hd,hhd⟩ : ∃ hd,M.holds t=hd:=⟨_,rfl⟩;obtain ⟨ft,hft⟩ : ∃ ft,M.fits [t]=ft:=⟨_,rfl⟩
 have HE:Hid (E=if 65535<=hd then 8 else if ft then 0 else 9):=by show _=_;rw [<- hE];unfold MV.ansE;rw [hhd,hft]
 have HA:Hid (M.ans t=if E=0 then { M.hold1 t with trail:=[] } else M):=by show _=_;unfold MV.ans;rw [hE]
 rw [hE];rw [hhd] at HH;rw [hft] at HFT;have HB:=Lib.hid (heap_alloc_new w (.cells #[.int .i64 t.n,.slice ta t.ws.length tc] 56 (0,0)));have hb:=boxT w (.int .i64 t.n) (.slice ta t.ws.length tc);have HU0:=Lib.hid ((Upd.refl [] w).alloc (.cells #[.int .i64 t.n,.slice ta t.ws.length tc] 56 (0,0)))
 have HBK:Hid (∀ x:World,Upd [] (w.alloc (.cells #[.int .i64 t.n,.slice ta t.ws.length tc] 56 (0,0))) x->x.cell? ⟨w.heap.size,0,none⟩=some (.int .i64 t.n)/\x.cell? ⟨w.heap.size,1,none⟩=some (.slice ta t.ws.length tc)):=fun x u=>boxT_keep u hb
 unfold tabV at *;generalize t.ws.length=W at *;generalize t.n=n at *;obtain ⟨b0,b1⟩:=hb;clear h hZ hf ht htn hm hE hhd hft
 go_enter Tryz.func94,Tryz.ntmps94
 go_wp2_with fail;refine (HH.out _ HU0.out).mono ?_;rintro e w1 ⟨rfl,hu⟩;have HU1:=Lib.hid hu;obtain ⟨d0,d1⟩:=HBK.out _ hu;clear hu b0 b1
 by_cases hh:65535<=hd
 ·have hdc:decide ((65535:Int)<=(hd:Int))=true:=by simp;omega
  have he:E=8:=by rw [HE.out,if_pos hh]
  subst he;clear hh;go_wp2_with fail;go_ret;refine ⟨rfl,?_⟩;rw [HA.out,if_neg (by decide)];exact HSM.out _ (HU0.out.trans HU1.out)
 ·have hdc:decide ((65535:Int)<=(hd:Int))=false:=by simp;omega
  have HHH:=Lib.hid hh;clear hh;have hb1:=heap_alloc_new w1 (.cells #[.int .i64 n,.slice ta W tc] 56 (0,0));have HFC:=Lib.hid (HFT.out _ _ ((HU0.out.trans HU1.out).alloc _) hb1 (HU0.out.trans HU1.out).size);clear hb1
  cases ft with
  | false =>
   have he:E=9:=by rw [HE.out,if_neg HHH.out];rfl
   subst he;go_wp2_with fail;refine HFC.out.mono ?_;rintro e w2 ⟨rfl,hu⟩;have HU2:=Lib.hid (((HU0.out.trans HU1.out).alloc _).trans hu);clear hu;go_wp2_with fail;go_ret;refine ⟨rfl,?_⟩;rw [HA.out,if_neg (by decide)];exact HSM.out _ HU2.out
  | true =>
   have he:E=0:=by rw [HE.out,if_neg HHH.out];rfl
   subst he;go_wp2_with fail;refine HFC.out.mono ?_;rintro e w2 ⟨rfl,hu⟩;have HU2:=Lib.hid (((HU0.out.trans HU1.out).alloc _).trans hu);obtain ⟨e0,e1⟩:=HBK.out _ ((HU1.out.alloc _).trans hu);clear hu d0 d1;go_wp2_with fail;refine (H1.out _ HU2.out).mono ?_;rintro e w3 hQ;obtain ⟨rfl,hmd⟩:=hQ.ex;obtain ⟨p1,q1,q2,q3⟩:=hmd.ex;obtain ⟨_,_,_,_,c4⟩:=q1.cells;have f4:=frozen_at 4 q1.blk
   have HF:Hid (ModE m p Z (M.ans t) w (w3.setCell ⟨m,4,none⟩ (.slice none 0 0))):=by
    rw [HA.out];first | rw [if_pos rfl] | rw [if_pos trivial]
    refine ModE.pre HU2.out (hmd.trans fun p2 h2=>?_);exact ModE.notrail h2
   clear hQ hmd q1 q2 q3 e0 e1;go_wp2_with fail;go_ret;exact ⟨rfl,HF.out⟩
theorem addr_addx (g o j:Nat):(⟨g,o,none⟩ : Addr).add j=⟨g,o+j,none⟩:=by unfold Addr.add;split <;> simp_all
theorem flatH_take:∀ {H:List (TV × Nat)} {cs:List Value} (_:cs.length=H.length) (i:Nat),(flatH H cs).take (i*3)=flatH (H.take i) (cs.take i)
 | [],cs,h,i=>by cases cs <;> simp_all [flatH]
 | a::H,[],h,i=>by simp at h
 | a::H,d::cs,h,0=>by simp [flatH]
 | a::H,d::cs,h,i+1=>by
  have ih:=flatH_take (H:=H) (cs:=cs) (by simpa using h) i;have e:flatH (a::H) (d::cs)=Value.int .i64 a.1.n::d::.int .i64 a.2::flatH H cs:=rfl;rw [e,show (i+1)*3=i*3+1+1+1 by omega]
  simp only [List.take_succ_cons,ih];rfl
theorem flatH_drop:∀ {H:List (TV × Nat)} {cs:List Value} (_:cs.length=H.length) (i:Nat),(flatH H cs).drop (i*3)=flatH (H.drop i) (cs.drop i)
 | [],cs,h,i=>by cases cs <;> simp_all [flatH]
 | a::H,[],h,i=>by simp at h
 | a::H,d::cs,h,0=>by simp
 | a::H,d::cs,h,i+1=>by
  have ih:=flatH_drop (H:=H) (cs:=cs) (by simpa using h) i;have e:flatH (a::H) (d::cs)=Value.int .i64 a.1.n::d::.int .i64 a.2::flatH H cs:=rfl;rw [e,show (i+1)*3=i*3+1+1+1 by omega]
  simp only [List.drop_succ_cons,ih]
theorem flatH_app {A B:List (TV × Nat)} {ca cb:List Value} (h:ca.length=A.length):flatH (A++B) (ca++cb)=flatH A ca++flatH B cb:=by
 unfold flatH;rw [List.zip_append h.symm,List.flatMap_append]
theorem flatH_cells {H:List (TV × Nat)} {cs:List Value} (h:∀ c,c∈cs->c.oneCell'=true):∀ u,u∈flatH H cs->u.oneCell'=true:=by
 intro u hu
 unfold flatH at hu;obtain ⟨p,hp,hu⟩:=List.mem_flatMap.1 hu;have:=(List.of_mem_zip hp).2
 simp only [List.mem_cons,List.not_mem_nil,or_false] at hu
 rcases hu with rfl | rfl | rfl
 ·rfl
 ·exact h _ this
 ·rfl
def MV.relE (M:MV) (t:TV):Int:=if t.isC then 0 else if t∈M.tabs then 0 else 3
theorem decL_at:∀ {H:List (TV × Nat)} {t:TV} {i:Nat} {u:TV × Nat},H[i]?=some u->u.1=t->(∀ h,h∈H.take i->h.1≠t)->decL H t=if u.2=1 then H.take i++H.drop (i+1) else H.set i (u.1,u.2-1)
 | [],_,_,_,h,_,_=>by simp at h
 | a::H,t,0,u,h,e,_=>by simp at h;subst h;simp [decL,e]
 | a::H,t,i+1,u,h,e,hno=>by
  have h1:a.1≠t:=hno a (by simp)
  have ih:=decL_at (H:=H) (by simpa using h) e fun x hx=>hno x (by simp [hx])
  simp only [decL,if_neg h1,ih]
  split
  ·simp
  ·simp
theorem decL_no:∀ {H:List (TV × Nat)} {t:TV},(∀ h,h∈H->h.1≠t)->decL H t=H
 | [],_,_=>rfl
 | a::H,t,h=>by
  have h1:a.1≠t:=h a (by simp)
  simp only [decL,if_neg h1]
  rw [decL_no fun x hx=>h x (by simp [hx])]
theorem ModE.newHeld {m:Nat} {M:MV} {p:MPtr} {Z:List Nat} {w w5:World} {v':Value} {H':List (TV × Nat)} {cs':List Value} (h:ModIn w m M p Z) (u5:Upd p.hv.ownBlock.toList w w5) (hcl:cs'.length=H'.length)
  (hown:w5.ownsRow w.heap.size 232 3 v' H'.length (flatH H' cs')) (hin:∀ (i:Nat) (u:TV × Nat) (e:Value),H'[i]?=some u->cs'[i]?=some e->TIn w Z e u.1) :
  ModE m p Z { M with held:=H' } w (w5.setCell ⟨m,3,none⟩ v'):=by
 have hlm:=heap_lt h.blk
 have hpa:∀ k,p.hv.ownBlock=some k->k∈p.all m:=fun k hk=>MPtr.mem.2 (.inr (.inr (.inl hk)))
 obtain ⟨xs0,hrow0⟩:=h.hs.row
 have hmt:∀ k,p.hv.ownBlock=some k->k≠m:=fun k hk e=>by
  subst e;obtain ⟨c1,f1,e1⟩:=row_type hrow0 hk;have e2:=h.blk;rw [e1] at e2
  injection e2 with e2
  injection e2 with _ e2 _
  exact absurd e2 (by decide)
 have hb5:=(u5.block m hlm fun hm=>hmt m (Option.mem_toList.1 hm) rfl).trans h.blk;have hb7:=heap_set_eq (j:=3) hb5 v';have u6:Upd (m::p.hv.ownBlock.toList) w (w5.setCell ⟨m,3,none⟩ v'):=(u5.mono (by intro k hk;simp [hk])).setCell (p:=⟨m,3,none⟩) (.inl (by simp)) _
 have hS0:∀ k,k∈m::p.hv.ownBlock.toList->k=m\/p.hv.ownBlock=some k:=fun k hk=>by
  rcases List.mem_cons.1 hk with h | h
  ·exact .inl h
  ·exact .inr (Option.mem_toList.1 h)
 have keepI:∀ {v:Value} {l:List Nat},w.ownsRow 0 3 1 v l.length (flatN l)->(w5.setCell ⟨m,3,none⟩ v').ownsRow 0 3 1 v l.length (flatN l):=fun {v l} hr=>row_keep hr fun k hk=>u6.block k (hr.lt k hk).2 fun hm=>by
  obtain ⟨c1,f1,e1⟩:=row_type hr hk
  rcases hS0 k hm with rfl | hh
  ·rw [h.blk] at e1
   injection e1 with e1
   injection e1 with _ e1 _
   exact absurd e1 (by decide)
  ·obtain ⟨c2,f2,e2⟩:=row_type hrow0 hh
   rw [e1] at e2
   injection e2 with e2
   injection e2 with _ e2 _
   exact absurd e2 (by decide)
 have hap:Sub Z w (Z++MPtr.all ⟨p.ov,v',p.tv⟩ m):=fun k hk=>by
  rcases List.mem_append.1 hk with hk | hk
  ·exact .inl hk
  ·rcases MPtr.mem.1 hk with rfl | h1 | h1 | h1
   ·exact .inl (h.sz _ (MPtr.mem.2 (.inl rfl)))
   ·exact .inl (h.sz _ (MPtr.mem.2 (.inr (.inl h1))))
   ·exact .inr (hown.lt k h1).1
   ·exact .inl (h.sz _ (MPtr.mem.2 (.inr (.inr (.inr h1)))))
 have hSZ:∀ k,k∈m::p.hv.ownBlock.toList->k∈Z++MPtr.all ⟨p.ov,v',p.tv⟩ m\/w.heap.size<=k:=fun k hk=>by
  rcases hS0 k hk with rfl | h1
  ·exact .inl (List.mem_append.2 (.inl (h.sz _ (MPtr.mem.2 (.inl rfl)))))
  ·exact .inl (List.mem_append.2 (.inl (h.sz _ (hpa k h1))))
 refine ⟨⟨p.ov,v',p.tv⟩,⟨hb7,keepI h.os,⟨cs',hcl,?_,fun i u e hu he=>((hin i u e hu he).apart hap).keep u6 hSZ⟩,keepI h.ts,h.ne,fun k hk=>List.mem_append.2 (.inr hk)⟩,u6.mono fun k hk=>?_,fun k hk=>?_⟩
 ·refine row_ne (row_base hown (Nat.zero_le _)) (fun e=>?_) _
  have:=(hown.lt m e.symm).1;omega
 ·rcases hS0 k hk with rfl | h1
  ·exact MPtr.mem.2 (.inl rfl)
  ·exact hpa k h1
 ·rcases MPtr.mem.1 hk with rfl | h1 | h1 | h1
  ·exact .inl (MPtr.mem.2 (.inl rfl))
  ·exact .inl (MPtr.mem.2 (.inr (.inl h1)))
  ·exact .inr (hown.lt k h1).1
  ·exact .inl (MPtr.mem.2 (.inr (.inr (.inr h1))))
theorem release9_spec (m:Nat) (M:MV) (p:MPtr) (Z:List Nat) (c:Value) (t:TV) (w:World) (h:ModIn w m M p Z) (hZ:∀ k,k∈Z->k<w.heap.size) (ht:TIn w Z c t) (hl:M.held.length<=4194304) (hm:∀ u,u∈M.held->0<u.2/\u.2<=65535) :
  Calls Tryz.prog 227 #[.pointer (some ⟨m,0,none⟩),tabV t c] w fun e w'=>e=.returned (.int .i64 (M.relE t))/\ModE m p Z (M.rel t) w w':=by
 obtain ⟨ti,hi2,hz2,hs2,hb2⟩:=info_parts Tryz.infoHold;have HI:=Lib.hid (And.intro hi2 (And.intro hz2 (And.intro hs2 hb2)));obtain ⟨ta,tc,rfl,_⟩:=row_nil_len ht.row;obtain ⟨fa,fc,hfv,hfa⟩:=h.hs.form;obtain ⟨_,_,_,c3,_⟩:=h.cells;rw [hfv] at c3;have hs:=h.hs;rw [hfv] at hs;have HL:=Lib.hid hs;have HT:=Lib.hid ht;have HM:=Lib.hid h;have HFV:=Lib.hid hfv;have HMX:=Lib.hid hm
 have HZ:Hid (∀ x:World,Upd [] w x->∀ k,k∈Z->k<x.heap.size):=fun x u k hk=>Nat.lt_of_lt_of_le (hZ k hk) u.size
 have HU0:=Lib.hid ((Upd.refl [] w).alloc (.cells #[.int .i64 t.n,.slice ta t.ws.length tc] 56 (0,0)));have hb:=boxT w (.int .i64 t.n) (.slice ta t.ws.length tc)
 have HSM:Hid (∀ (x:World) (d:Value) (u:TV),Upd [] w x->TIn x Z d u->Calls Tryz.prog 125 #[tabV u d,tabV t (.slice ta t.ws.length tc)] x fun e w'=>e=.returned (.bool (decide (u=t)))/\Upd [] x w'):=fun x d u hx hd=>same_spec Z d _ u t x hd (ht.keep0 hx)
 have HIC:Hid (∀ x:World,Upd [] w x->Calls Tryz.prog 185 #[tabV t (.slice ta t.ws.length tc)] x fun e w'=>e=.returned (.bool t.isC)/\Upd [] x w'):=fun x u=>isconst_spec Z _ t x (ht.keep0 u) (HZ.out x u)
 have HWN:Hid (t.ws.length=t.ws.length/\t.n=t.n):=⟨rfl,rfl⟩;unfold tabV at HSM HIC ⊢;generalize hW:t.ws.length=W at *;generalize hn:t.n=n at *;have HN:=Lib.hid (And.intro hW hn);obtain ⟨b0,b1⟩:=hb
 have HB:Hid (∀ x:World,Upd [] (w.alloc (.cells #[.int .i64 n,.slice ta W tc] 56 (0,0))) x->x.cell? ⟨w.heap.size,0,none⟩=some (.int .i64 n)/\x.cell? ⟨w.heap.size,1,none⟩=some (.slice ta W tc)):=fun x u=>boxT_keep u ⟨b0,b1⟩
 clear h hfv hs ht hZ hW hn hm hi2 hz2 hs2 hb2
 cases hc:t.isC with
 | true =>
  have HX:Hid (M.relE t=0/\M.rel t=M):=⟨by unfold MV.relE;rw [if_pos hc],by unfold MV.rel;rw [if_pos hc]⟩;have HC:=Lib.hid hc;clear hc
  go_enter Tryz.func227,Tryz.ntmps227
  go_wp2_with fail;refine (HIC.out _ HU0.out).mono ?_;rintro e w1 ⟨rfl,hu⟩;rw [HC.out];have HU:=Lib.hid (HU0.out.trans hu);clear hu b0 b1;go_wp2_with fail;go_ret;exact ⟨by rw [HX.out.1];rfl,by rw [HX.out.2];exact ModE.same HM.out HU.out⟩
 | false =>
  have HC:=Lib.hid hc;clear hc
  go_enter Tryz.func227,Tryz.ntmps227
  go_wp2_with fail;refine (HIC.out _ HU0.out).mono ?_;rintro e w1 ⟨rfl,hu⟩;rw [HC.out];have HU:=Lib.hid (HU0.out.trans hu);have HUB:=Lib.hid hu;clear hu b0 b1;go_wp2_with fail
  go_loopg [5] M.held.length (fun g s5 wr=>∃ i:Nat,M.held.length-i=g/\i<=M.held.length/\s5=.int .i64 i/\(∀ h,h∈M.held.take i->h.1≠t)/\Upd [] w1 wr)
  case atStart=>exact ⟨0,by omega,by omega,rfl,by simp,Upd.refl _ _⟩
  case round =>
   obtain ⟨i,rfl,hi,rfl,hno,hU⟩:=hrel;have hUw:=HU.out.trans hU;have d3:=hUw.cell0 c3
   by_cases hlt:i<M.held.length
   ·obtain ⟨u,hu⟩ : ∃ u,M.held[i]?=some u:=⟨_,List.getElem?_eq_getElem hlt⟩
    obtain ⟨ga,rfl⟩:=hfa (by omega);obtain ⟨cu,x0,x1,x2,htu⟩:=(HL.out.keep hUw (by simp) (by simp)).at_ hu;obtain ⟨ua,uc,hcu,_⟩:=row_nil_len htu.row;subst hcu
    have hil:(i:Int)<(M.held.length:Int):=by omega
    obtain ⟨y0,y1⟩:=HB.out _ (HUB.out.trans hU);have HS1:=Lib.hid (HSM.out wr.drew _ u.1 hUw.drew (htu.keep0 (Upd.refl _ _).drew));have HNN:=Lib.hid (And.intro hu (And.intro hno hU));have hk16:=HMX.out u (List.mem_of_getElem? hu)
    have fz2:wr.frozen? ⟨ga,i*3+2,none⟩=false:=by
     obtain ⟨xs,hr⟩:=(HL.out.keep hUw (by simp) (by simp)).row;exact row_frozen hr _
    obtain ⟨q,k⟩:=u
    simp only at *
    generalize q.ws.length=UW at *;generalize q.n=un at *;clear hu htu hno hU
    have HX2:Hid (∀ x:World,Upd [] wr x->x.cell? ⟨m,3,none⟩=some (.slice (some ⟨ga,0,none⟩) M.held.length fc)/\x.cell? ⟨ga,i*3,none⟩=some (.int .i64 un)/\x.cell? ⟨ga,i*3+1,none⟩=some (.slice ua UW uc)/\x.cell? ⟨w.heap.size,0,none⟩=some (.int .i64 n)/\x.cell? ⟨w.heap.size,1,none⟩=some (.slice ta W tc)):=fun x u=>⟨u.cell0 d3,u.cell0 x0,u.cell0 x1,u.cell0 y0,u.cell0 y1⟩
    go_wp2_with fail
    go_region_held3 (fun w'=>w'.cell? ⟨m,3,none⟩=some (.slice (some ⟨ga,0,none⟩) M.held.length fc)/\w'.cell? ⟨ga,i*3,none⟩=some (.int .i64 un)/\w'.cell? ⟨ga,i*3+1,none⟩=some (.slice ua UW uc)/\w'.cell? ⟨w.heap.size,0,none⟩=some (.int .i64 n)/\w'.cell? ⟨w.heap.size,1,none⟩=some (.slice ta W tc)) (first | exact HX2.out _ (Upd.refl _ _).drew | exact HX2.out _ HS2.out) (first | (go_at_call 125;refine HS1.out.mono ?_;rintro e w5 ⟨rfl,hu⟩;have HS2:=Lib.hid hu.of_drew;clear hu))
    have k2:=HS2.out.cell0 x2;have k3:=HS2.out.cell0 d3;have g2:w5.frozen? ⟨ga,i*3+2,none⟩=false:=(HS2.out.frozen (World.block_lt_of_cell? _ _ x2) (by simp)).trans fz2;have HU5:=Lib.hid (HNN.out.2.2.trans HS2.out);clear HS1 HX2 x0 x1 x2 y0 y1 d3 fz2
    by_cases he:q=t
    ·rw [decide_eq_true he]
     obtain ⟨k',rfl⟩ : ∃ k',k=k'+1:=⟨k-1,by have:=hk16.1;omega⟩;have HDL:=Lib.hid (decL_at HNN.out.1 he HNN.out.2.1)
     have HMT:Hid (t∈M.tabs):=by rw [<- he];exact List.mem_map.2 ⟨_,List.mem_of_getElem? HNN.out.1,rfl⟩
     have HRE:Hid (M.relE t=0):=by show _=_;unfold MV.relE;rw [if_neg (by rw [HC.out];simp),if_pos HMT.out]
     have HRL:Hid (M.rel t={ M with held:=decL M.held t }):=by show _=_;unfold MV.rel;rw [if_neg (by rw [HC.out];simp)]
     have hk15:=hk16.2
     have hw1:IntKind.i64.wrap (((k'+1:Nat):Int)-1)=(k':Int):=by rw [Int.natCast_add,Int.natCast_one,Int.add_sub_cancel];exact IntWalk.i64_in _ (by omega)
     have HE:=Lib.hid (ModE.setCount (k:=k') HM.out (HU.out.trans HU5.out) HFV.out HNN.out.1);clear he hk16
     by_cases hz:k'=0
     ·subst hz
      have HX:Hid (M.rel t={ M with held:=M.held.take i++M.held.drop (i+1) }):=by
       show _=_
       rw [HRL.out,HDL.out,if_pos (by simp)]
      obtain ⟨cs,hcl,hrow0,hti⟩:=HM.out.hs.ex;rw [HFV.out] at hrow0;have huw5:=HU.out.trans HU5.out
      have hrow5:=row_keep hrow0 fun k hk=>huw5.block k (hrow0.lt k hk).2 (by simp)
      have hrow6:=row_set hrow5 (j:=i*3+2) (by omega) (.int .i64 0);have hu6:Upd [ga] w (w5.setCell ⟨ga,i*3+2,none⟩ (.int .i64 0)):=(huw5.mono (by simp)).setCell (p:=⟨ga,i*3+2,none⟩) (.inl (by simp)) _
      have hl1:(flatH (M.held.take i) (cs.take i)).length=i*3:=by rw [flatH_len (by simp [hcl]),List.length_take,Nat.min_eq_left (by omega)]
      have hl2:(flatH (M.held.drop (i+1)) (cs.drop (i+1))).length=(M.held.length-(i+1))*3:=by rw [flatH_len (by simp [hcl]),List.length_drop]
      have g1:∀ (j:Nat) u,(flatH (M.held.take i) (cs.take i))[j]?=some u->(w5.setCell ⟨ga,i*3+2,none⟩ (.int .i64 0)).cell? ⟨ga,j,none⟩=some u:=fun j u hj=>by
       have hjl:=(List.getElem?_eq_some_iff.1 hj).1;rw [hl1] at hjl;refine row_cell hrow6 ?_;rw [List.getElem?_set_ne (by omega)];rw [<- flatH_take hcl i,List.getElem?_take_of_lt (by omega)] at hj;exact hj
      have g3:∀ (j:Nat) u,(flatH (M.held.drop (i+1)) (cs.drop (i+1)))[j]?=some u->(w5.setCell ⟨ga,i*3+2,none⟩ (.int .i64 0)).cell? ⟨ga,(i+1)*3+j,none⟩=some u:=fun j u hj=>by
       refine row_cell hrow6 ?_;rw [List.getElem?_set_ne (by omega)];rw [<- flatH_drop hcl (i+1),List.getElem?_drop] at hj;exact hj
      have hone:∀ c,c∈cs->c.oneCell'=true:=fun c hc=>by
       obtain ⟨j,hj⟩:=List.mem_iff_getElem?.1 hc;have hjl:=(List.getElem?_eq_some_iff.1 hj).1;obtain ⟨a,d,rfl,_⟩:=row_nil_len (hti j _ c (List.getElem?_eq_getElem (by omega)) hj).row;rfl
      have HO1:=Lib.hid (flatH_cells (H:=M.held.take i) (cs:=cs.take i) fun c hc=>hone c (List.mem_of_mem_take hc));have HO2:=Lib.hid (flatH_cells (H:=M.held.drop (i+1)) (cs:=cs.drop (i+1)) fun c hc=>hone c (List.mem_of_mem_drop hc))
      have hgm:ga≠m:=fun e=>by
       subst e;obtain ⟨c1,f1,e1⟩:=row_type hrow0 rfl;have e2:=HM.out.blk;rw [e1] at e2
       injection e2 with e2
       injection e2 with _ e2 _
       exact absurd e2 (by decide)
      have hb6:=(hu6.block m (heap_lt HM.out.blk) (by simp;exact fun e=>hgm e.symm)).trans HM.out.blk;have hsz6:=hu6.size;have HG:=Lib.hid (And.intro g1 g3);have HL12:=Lib.hid (And.intro hl1 hl2);have HTI:=Lib.hid (And.intro hcl hti);have HU6:=Lib.hid hu6;have HB6:=Lib.hid hb6
      have d3:(w5.setCell ⟨ga,i*3+2,none⟩ (.int .i64 0)).cell? ⟨m,3,none⟩=some (.slice (some ⟨ga,0,none⟩) M.held.length fc):=by rw [<- HFV.out];exact cell_at hb6 rfl
      have hfc:M.held.length<=fc:=by
       obtain ⟨_,(⟨e1,_⟩ | ⟨g,c9,cur,e1,_,_,h5,_⟩)⟩:=hrow0
       ·cases e1
       ·cases e1;exact h5
      have hif:(i:Int)<=(fc:Int):=by omega
      have hi0:(0:Int)<=(i:Int):=by omega
      clear hrow0 hrow5 hrow6 hu6 hl1 hl2 g1 g3 hone hb6 hgm hti huw5 HE;go_upto_region 10 with fail;generalize hW6:w5.setCell ⟨ga,i*3+2,none⟩ (.int .i64 0)=W6 at *;clear hW6 k2 k3 g2 hw1
      go_wp2_with (at_builtin;go_must (refine wpList_append_src rfl (.tmp 48) (.tmp 54) 88 rfl w.heap.size 232 ti _ 3 40 Tryz.underlying88 HI.out.1 HI.out.2.1 HI.out.2.2.1 HI.out.2.2.2 (by rfl) (by decide) (.slice none 0 0) 0 [] rfl (World.ownsRow_nil _ _ _ _) (some ⟨ga,0,none⟩) i fc (flatH (M.held.take i) (cs.take i)) rfl (fun e=>by cases e) HL12.out.1 ?c1 HO1.out (by unfold maxLen;omega) (by omega) hsz6 ?_))
      case c1=>intro j u hj;exact HG.out.1 j u hj
      intro v7 w7 hown hgr hat
      obtain ⟨va,vc,rfl,_⟩:=row_nil_len hown;have hb7:=(hgr.block m (heap_lt HB6.out) (by simp [Value.ownBlock])).trans HB6.out
      have d7:w7.cell? ⟨m,3,none⟩=some (.slice (some ⟨ga,0,none⟩) M.held.length fc):=by rw [<- HFV.out];exact cell_at hb7 rfl
      have f7:=frozen_at 3 hb7;have hu7:Upd [ga] w w7:=HU6.out.grown hgr (by simp [Value.ownBlock]);have hgl:ga<W6.heap.size:=Nat.lt_of_lt_of_le (HM.out.lt ga (MPtr.mem.2 (.inr (.inr (.inl (by rw [HFV.out];rfl)))))) HU6.out.size
      have HG7:Hid (∀ (j:Nat) u,(flatH (M.held.drop (i+1)) (cs.drop (i+1)))[j]?=some u->w7.cell? ⟨ga,(i+1)*3+j,none⟩=some u):=fun j u hj =>
       (World.cell?_of_block (hgr.block ga hgl (by simp [Value.ownBlock]))).trans (HG.out.2 j u hj)
      have hsz7:=hu7.size;have H7:=Lib.hid (And.intro hown (And.intro hu7 hb7));have hwi:IntKind.i64.wrap ((i:Int)+1)=(i:Int)+1:=IntWalk.i64_in _ (by omega)
      have hti1:((i:Int)+1).toNat=i+1:=by omega
      have hi10:(0:Int)<=(i:Int)+1:=by omega
      have hil1:(i:Int)+1<=(M.held.length:Int):=by omega
      have hifc:(i:Int)+1<=(fc:Int):=by omega
      have hlfc:(M.held.length:Int)<=(fc:Int):=by omega
      clear hown hgr hat hb7 hu7 hgl d3
      rcases Nat.eq_zero_or_pos (fc-(i+1)) with hd | hd
      ·have hlz:M.held.length-(i+1)=0:=by omega
       have HLZ:=Lib.hid hlz;clear hlz;go_upto_region 11 with fail
       go_wp2_with (at_builtin;go_must (refine wpList_append_src rfl (.tmp 57) (.tmp 64) 88 rfl w.heap.size 232 ti _ 3 40 Tryz.underlying88 HI.out.1 HI.out.2.1 HI.out.2.2.1 HI.out.2.2.2 (by rfl) (by decide) (.slice va i vc) i (flatH (M.held.take i) (cs.take i)) rfl H7.out.1 (some ⟨ga,0,none⟩) (M.held.length-(i+1)) _ (flatH (M.held.drop (i+1)) (cs.drop (i+1))) rfl (fun e=>by cases e) HL12.out.2 ?c1 HO2.out (by unfold maxLen;omega) (by omega) hsz7 ?_))
       case c1=>intro ad e j u hj;exact absurd (List.getElem?_eq_some_iff.1 hj).1 (by rw [HL12.out.2,HLZ.out];omega)
       intro v9 w9 hown hgr hat
       obtain ⟨vb,vd,rfl,_⟩:=row_nil_len hown;have hb9:=(hgr.block m (heap_lt H7.out.2.2) (fun e=>by have:=(H7.out.1.lt m e.symm).1;have:=heap_lt HM.out.blk;omega)).trans H7.out.2.2;have f9:=frozen_at 3 hb9;have x9:=cell_at (j:=3) hb9 rfl
       have hu9:Upd p.hv.ownBlock.toList w w9:=by
        rw [HFV.out]
        exact H7.out.2.1.grown hgr fun k hk=>.inr (H7.out.1.lt k hk).1
       have hlen:(M.held.take i++M.held.drop (i+1)).length=i+(M.held.length-(i+1)):=by simp;omega
       have HF:Hid (ModE m p Z (M.rel t) w (w9.setCell ⟨m,3,none⟩ (.slice vb (i+(M.held.length-(i+1))) vd))):=by
        rw [HX.out]
        refine ModE.newHeld (cs':=cs.take i++cs.drop (i+1)) HM.out hu9 (by simp [HTI.out.1]) ?_ fun j u e hu he=>?_
        ·rw [hlen,flatH_app (by simp [HTI.out.1])];exact hown
        ·by_cases hji:j<i
         ·rw [List.getElem?_append_left (by simp;omega),List.getElem?_take_of_lt hji] at hu
          rw [List.getElem?_append_left (by simp [HTI.out.1];omega),List.getElem?_take_of_lt hji] at he;exact HTI.out.2 j u e hu he
         ·rw [List.getElem?_append_right (by simp;omega),List.getElem?_drop] at hu
          rw [List.getElem?_append_right (by simp [HTI.out.1];omega),List.getElem?_drop] at he
          simp only [List.length_take,HTI.out.1] at hu he
          exact HTI.out.2 _ u e hu he
       clear hown hgr hat hb9 hu9 hlen;go_wp2_with fail;go_ret;exact ⟨by rw [HRE.out];rfl,HF.out⟩
      ·obtain ⟨d,hd1⟩ : ∃ d,fc-(i+1)=d+1:=⟨fc-(i+1)-1,by omega⟩
       clear hd;go_upto_region 11 with fail
       go_wp2_with (at_builtin;go_must (refine wpList_append_src rfl (.tmp 57) (.tmp 64) 88 rfl w.heap.size 232 ti _ 3 40 Tryz.underlying88 HI.out.1 HI.out.2.1 HI.out.2.2.1 HI.out.2.2.2 (by rfl) (by decide) (.slice va i vc) i (flatH (M.held.take i) (cs.take i)) rfl H7.out.1 (some ⟨ga,(i+1)*3,none⟩) (M.held.length-(i+1)) _ (flatH (M.held.drop (i+1)) (cs.drop (i+1))) rfl (fun e=>by cases e) HL12.out.2 ?c1 HO2.out (by unfold maxLen;omega) (by omega) hsz7 ?_))
       case c1=>intro ad e j u hj;cases e;have h9:=HG7.out j u hj;rw [addr_addx];exact h9
       intro v9 w9 hown hgr hat
       obtain ⟨vb,vd,rfl,_⟩:=row_nil_len hown;have hb9:=(hgr.block m (heap_lt H7.out.2.2) (fun e=>by have:=(H7.out.1.lt m e.symm).1;have:=heap_lt HM.out.blk;omega)).trans H7.out.2.2;have f9:=frozen_at 3 hb9;have x9:=cell_at (j:=3) hb9 rfl
       have hu9:Upd p.hv.ownBlock.toList w w9:=by
        rw [HFV.out]
        exact H7.out.2.1.grown hgr fun k hk=>.inr (H7.out.1.lt k hk).1
       have hlen:(M.held.take i++M.held.drop (i+1)).length=i+(M.held.length-(i+1)):=by simp;omega
       have HF:Hid (ModE m p Z (M.rel t) w (w9.setCell ⟨m,3,none⟩ (.slice vb (i+(M.held.length-(i+1))) vd))):=by
        rw [HX.out]
        refine ModE.newHeld (cs':=cs.take i++cs.drop (i+1)) HM.out hu9 (by simp [HTI.out.1]) ?_ fun j u e hu he=>?_
        ·rw [hlen,flatH_app (by simp [HTI.out.1])];exact hown
        ·by_cases hji:j<i
         ·rw [List.getElem?_append_left (by simp;omega),List.getElem?_take_of_lt hji] at hu
          rw [List.getElem?_append_left (by simp [HTI.out.1];omega),List.getElem?_take_of_lt hji] at he;exact HTI.out.2 j u e hu he
         ·rw [List.getElem?_append_right (by simp;omega),List.getElem?_drop] at hu
          rw [List.getElem?_append_right (by simp [HTI.out.1];omega),List.getElem?_drop] at he
          simp only [List.length_take,HTI.out.1] at hu he
          exact HTI.out.2 _ u e hu he
       clear hown hgr hat hb9 hu9 hlen;go_wp2_with fail;go_ret;exact ⟨by rw [HRE.out];rfl,HF.out⟩
     ·have hzd:((k':Int) == 0)=false:=by simpa using hz
      have HX:Hid (M.rel t={ M with held:=M.held.set i (q,k') }):=by
       show _=_
       rw [HRL.out,HDL.out,if_neg (by simp;exact hz)];rfl
      clear hz;go_wp2_with fail;go_ret;exact ⟨by rw [HRE.out];rfl,by rw [HX.out];exact HE.out⟩
    ·rw [decide_eq_false he]
     have HE:Hid (∀ h,h∈M.held.take (i+1)->h.1≠t):=fun h hh=>by
      rw [List.take_add_one,HNN.out.1] at hh
      rcases List.mem_append.1 hh with hh | hh
      ·exact HNN.out.2.1 h hh
      ·simp at hh;subst hh;exact he
     clear he k2 k3 g2;go_wp2_with fail
     go_roundg (M.held.length-(i+1))
     case measure=>omega
     case rel=>exact ⟨i+1,rfl,by omega,by simp,HE.out,HU5.out⟩
   ·obtain rfl:i=M.held.length:=by omega
    have hil:¬ ((M.held.length:Int)<(M.held.length:Int)):=by omega
    rw [List.take_length] at hno
    have HX:Hid (M.relE t=3/\M.rel t=M):=by
     refine ⟨?_,?_⟩
     ·unfold MV.relE
      rw [if_neg (by rw [HC.out];simp),if_neg]
      intro hm
      obtain ⟨u,hu,e⟩:=List.mem_map.1 hm;exact hno u hu e
     ·unfold MV.rel
      rw [if_neg (by rw [HC.out];simp),decL_no hno]
    have HUW:=Lib.hid hUw;clear hno hU hUw;go_wp2_with fail;go_ret;exact ⟨by rw [HX.out.1];rfl,by rw [HX.out.2];exact ModE.same HM.out HUW.out⟩
theorem ModIn.not_ty {w:World} {m k:Nat} {M:MV} {p:MPtr} {Z:List Nat} {C:Array Value} {e:TypeId} {fr:Nat × Nat} (h:ModIn w m M p Z) (hb:w.heap[k]?=some (.cells C e fr)) (h1:90≠e) (h2:3≠e) (h3:232≠e):k∉p.all m:=by
 have key:∀ (t:TypeId),t≠e->(∃ cs fr,w.heap[k]?=some (.cells cs t fr))->False:=by
  rintro t he ⟨cs,fr,h1⟩;rw [hb] at h1
  injection h1 with h1
  injection h1 with _ h1 _
  exact he h1.symm
 intro hk
 rcases MPtr.mem.1 hk with rfl | h4 | h4 | h4
 ·exact key _ h1 ⟨_,_,h.blk⟩
 ·exact key _ h2 (row_type h.os h4)
 ·obtain ⟨xs,hr⟩:=h.hs.row
  exact key _ h3 (row_type hr h4)
 ·exact key _ h2 (row_type h.ts h4)
end Go.Proofs.YtpfafhmkbcahhaaGreat
