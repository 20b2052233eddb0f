import Derived.Test.YtpfafhmkbcahhaaGreatPT16
import Derived.Test.YtpfafhmkbcahhaaGreatPT24
import Derived.Test.YtpfafhmkbcahhaaGreatPT25
set_option maxRecDepth 100000
set_option maxHeartbeats 1600000
namespace Go.Proofs.YtpfafhmkbcahhaaGreat
open Go.RowKit Go.Maps Go.ChangeMaps Go.WideShapes
structure KM (K:KV) (M:MV):Prop where
 agr:Agr K M
 fit:M.Fit
 tr:K.trail=M.trail
 tf:M.TrFit
theorem KM.n16 {K:KV} {M:MV} (h:KM K M):K.vars<=16:=by have:=h.fit.n6;rw [h.agr.same.n] at this;omega
theorem KM.len {K:KV} {M:MV} (h:KM K M) (hk:K.Ok):M.order.length=M.n:=by rw [h.agr.same.od,h.agr.same.n];exact hk.ord.pm.ol
theorem KV.Ext.trail (K:KV) (t:List Nat):K.Ext { K with trail:=t }:=⟨fun _ _ h _=>h,rfl,rfl,rfl,rfl⟩
theorem Agr.exch {K K1:KV} {M:MV} {l:Nat} {t:List Nat} (h:Agr K M) (hk0:K.Ok) (hk:K1.Ok) (X:Exch K l K1):Agr { K1 with trail:=t } { M with order:=turnL M.order l,trail:=t }:=by
 refine ⟨⟨?_,h.same.n.trans X.vr.symm⟩,h.c.trans X.pl.symm,h.nd,fun u c hm=>?_,fun r hr=>?_⟩
 ·show turnL M.order l=K1.order
  rw [X.od,h.same.od];rfl
 ·obtain ⟨h1,h2,r,h3,h4,h5,h6,h7⟩:=h.hl u c hm
  have hh:K1.hold r=c:=by rw [X.hd];exact h5
  have ht:=(hk.wf.ht r (by rw [hh];exact h6)).2;exact ⟨h1,h2.trans X.vr.symm,r,h3,ht,hh,h6,fun y=>by rw [(KV.Ext.trail K1 t).den hk.wf y ht,X.den r h4 ht];exact h7 y⟩
 ·have hr':0<K1.hold r:=hr
  have ht:=(hk.wf.ht r hr').2;rw [X.hd] at hr';obtain ⟨u,c,h1,h2,h3⟩:=h.lh r hr';refine ⟨u,c,h1,by show K1.hold r=c;rw [X.hd];exact h2,fun y=>?_⟩
  rw [(KV.Ext.trail K1 t).den hk.wf y ht,X.den r (hk0.wf.ht r hr').2 ht];exact h3 y
theorem MV.Fit.exch {M:MV} (h:M.Fit) {l:Nat} (hl:l+1<M.order.length) (t:List Nat):({ M with order:=turnL M.order l,trail:=t }:MV).Fit :=
 ⟨h.hl,h.n6,by show (turnL _ _).length<=6;rw [turnL_len];exact h.ol,fun x hx=>h.on x (mem_turnL hl hx),h.tn,h.cb⟩
structure Stay (K K':KV):Prop where
 vr:K'.vars=K.vars
 hd:∀ r,K'.hold r=K.hold r
 den:∀ r,0<K.hold r\/r<2->∀ z,K'.den r z=K.den r z
theorem Stay.refl (K:KV):Stay K K:=⟨rfl,fun _=>rfl,fun _ _ _=>rfl⟩
theorem Stay.trans {A B C:KV} (h:Stay A B) (k:Stay B C):Stay A C :=
 ⟨k.vr.trans h.vr,fun r=>(k.hd r).trans (h.hd r),fun r hr z=>(k.den r (by rw [h.hd];exact hr) z).trans (h.den r hr z)⟩
theorem Exch.stay {K K1:KV} {l:Nat} {t:List Nat} (X:Exch K l K1) (hk0:K.Ok) (hk:K1.Ok):Stay K { K1 with trail:=t }:=by
 refine ⟨X.vr,X.hd,fun r hr z=>?_⟩
 rcases hr with hr | hr
 ·have ht:=(hk.wf.ht r (by rw [X.hd];exact hr)).2
  rw [(KV.Ext.trail K1 t).den hk.wf z ht];exact X.den r (hk0.wf.ht r hr).2 ht z
 ·rw [KV.den_const _ hr,KV.den_const _ hr]
structure KMove (b:Nat) (K:KV) (F:List Nat) (M':MV) (w w':World):Prop where
 ex:∃ (K':KV) (F':List Nat),KerAt w' b K' F'/\KM K' M'/\Stay K K'/\Upd F w w'/\Sub F w F'
theorem KV.Ok.nb {K:KV} (hk:K.Ok) (hu:K.Uni) {l:Nat} (hl:l+2<=K.vars):Nb K l (K.order.getD l 0) (K.order.getD (l+1) 0):=⟨hk,hu,hl,rfl,rfl⟩
theorem exch_km (b:Nat) (l:Int) (K:KV) (F:List Nat) (M:MV) (w:World) (h:KerAt w b K F) (hm:KM K M) (ht:M.trail.length<=1000000) :
  Calls Tryz.prog 49 #[.pointer (some ⟨b,0,none⟩),.int .i64 l] w fun e w'=>e=.returned (.int .i64 (M.exchE l))/\KMove b K F (M.exch l) w w':=by
 have hu:=h.uni;obtain ⟨T,q,hk,rfl⟩:=h;refine (exchange_spec b l K T q w hk (by rw [hm.tr];exact ht)).mono ?_;rintro e w' hE;obtain ⟨code,K',T',q',rfl,hk',hu',hs',hc⟩:=hE.ex;have hn:=hm.agr.same.n
 rcases hc with ⟨rfl,h1,rfl⟩ | ⟨n,rfl,h2,C,N,CA,F,hc⟩
 ·have he:M.exchE l=1:=by unfold MV.exchE;rw [if_pos (by rw [hn];exact h1)]
  exact ⟨by rw [he],K',_,⟨T',q',hk',rfl⟩,by rw [MV.exch_no (by rw [he];omega)];exact hm,Stay.refl _,hu',hs'⟩
 ·have hU:=hm.agr.U (hk.ok.nb hu h2) hm.n16 CA F
  have hcc:=hm.agr.c
  rcases hc with ⟨rfl,h3,rfl⟩ | ⟨rfl,h3,K1,X,_,rfl⟩
  ·have he:M.exchE (n:Int)=9:=by unfold MV.exchE;rw [if_neg (by omega),Int.toNat_natCast,if_pos (by omega)]
   exact ⟨by rw [he],K',_,⟨T',q',hk',rfl⟩,by rw [MV.exch_no (by rw [he];omega)];exact hm,Stay.refl _,hu',hs'⟩
  ·have he:M.exchE (n:Int)=0:=by unfold MV.exchE;rw [if_neg (by omega),Int.toNat_natCast,if_neg (by omega)]
   have hk1:K1.Ok:=⟨⟨hk'.ok.wf.ok,hk'.ok.wf.len,hk'.ok.wf.ul,hk'.ok.wf.tu,hk'.ok.wf.ht,hk'.ok.wf.hm,hk'.ok.wf.eq,hk'.ok.wf.pt,hk'.ok.wf.cl,hk'.ok.wf.vr,hk'.ok.wf.vs⟩,hk'.ok.pos,hk'.ok.ord.same rfl rfl rfl rfl,fun t ht'=>hk'.ok.tl t (by show t∈K1.trail++[n];simp [ht'])⟩;have hol:=hk.ok.ord.pm.ol
   have e1:M.exch (n:Int)={ M with order:=turnL M.order n,trail:=M.trail++[n] }:=by
    obtain ⟨_,_,_,e⟩:=MV.exch_yes he
    rw [Int.toNat_natCast] at e;exact e
   have htr:K1.trail++[n]=M.trail++[n]:=by rw [X.tr,hm.tr]
   refine ⟨by rw [he],K1.addT n,_,⟨T',q',hk',rfl⟩,⟨?_,?_,?_,hm.tf.exch (hm.len hk.ok) _⟩,X.stay hk.ok hk1,hu',hs'⟩
   ·rw [e1,<- htr];exact hm.agr.exch hk.ok hk1 X
   ·rw [e1];exact hm.fit.exch (by rw [hm.len hk.ok,hn];omega) _
   ·rw [e1];exact htr
theorem undo_km (b:Nat) (K:KV) (F:List Nat) (M:MV) (w:World) (h:KerAt w b K F) (hm:KM K M) (ht:M.trail.length<=1000000) (hne:M.trail≠[]) :
  Calls Tryz.prog 41 #[.pointer (some ⟨b,0,none⟩)] w fun e w'=>e=.returned (.tuple #[.int .i64 (M.trail.getLastD 0:Nat),.int .i64 0])/\KMove b K F M.undo w w':=by
 have hu:=h.uni;obtain ⟨T,q,hk,rfl⟩:=h;obtain ⟨t1,t2,t3⟩:=hm.tf.last hne;have hn:=hm.agr.same.n;have hcc:=hm.agr.c;refine (undo_spec b K T q w hk (by rw [hm.tr];exact ht) (fun _ C N CA F=>?_)).mono ?_
 ·rw [hm.tr] at CA F
  have hU:=hm.agr.U (hk.ok.nb hu (by omega)) hm.n16 CA F;omega
 ·rintro e w' hE
  obtain ⟨K',T',q',hk',hu',hs',hc⟩:=hE.ex
  rcases hc with ⟨h1,_⟩ | ⟨_,rfl,K1,X,rfl⟩
  ·rw [hm.tr] at h1;exact absurd h1 hne
  ·rw [hm.tr] at X
   have hk1:K1.Ok:=⟨⟨hk'.ok.wf.ok,hk'.ok.wf.len,hk'.ok.wf.ul,hk'.ok.wf.tu,hk'.ok.wf.ht,hk'.ok.wf.hm,hk'.ok.wf.eq,hk'.ok.wf.pt,hk'.ok.wf.cl,hk'.ok.wf.vr,hk'.ok.wf.vs⟩,hk'.ok.pos,hk'.ok.ord.same rfl rfl rfl rfl,fun t ht'=>by rw [X.tr] at ht';rw [X.vr];exact hk.ok.tl t ht'⟩
   have htr:K1.trail.dropLast=M.trail.dropLast:=by rw [X.tr,hm.tr]
   refine ⟨by rw [hm.tr],K1.cutT,_,⟨T',q',hk',rfl⟩,⟨?_,?_,htr,t3⟩,X.stay hk.ok hk1,hu',hs'⟩
   ·show Agr { K1 with trail:=K1.trail.dropLast } { M with order:=turnL M.order (M.trail.getLastD 0),trail:=M.trail.dropLast }
    rw [<- htr];exact hm.agr.exch hk.ok hk1 X
   ·exact hm.fit.exch (by rw [hm.len hk.ok,hn];omega) _
theorem KM.live {K:KV} {M:MV} (h:KM K M) (hk:K.Ok) (hu:K.Uni):(K.A.used:Int)-2=(M.live:Nat):=by
 have:=h.agr.used hk hu h.n16
 unfold MV.live;omega
abbrev swC (b at_ best place g sw last:Nat) (st:Value):Array Value:=#[.pointer (some ⟨b,0,none⟩),.int .i64 at_,.int .i64 best,.int .i64 place,.int .i64 g,.int .i64 sw,.int .i64 last,st]
def pickC (e:Int) (A B:Array Value):Array Value:=if e=0 then A else B
structure SwQ (wb b:Nat) (K:KV) (F:List Nat) (M':MV) (C:Array Value) (w w':World):Prop where
 ex:∃ (K':KV) (F':List Nat),KerAt w' b K' F'/\KM K' M'/\Stay K K'/\wb∉F'/\Upd (wb::F) w w'/\Sub (wb::F) w (wb::F')
 blk:w'.heap[wb]?=some (.cells C 132 (0,0))
theorem SwQ.of {wb b:Nat} {K:KV} {F:List Nat} {M':MV} {C:Array Value} {w w1 w':World} (hn:wb∉F) (hl:wb<w.heap.size) (h:KMove b K F M' w w1) (u:Upd [wb] w1 w') (hb:w'.heap[wb]?=some (.cells C 132 (0,0))):SwQ wb b K F M' C w w':=by
 obtain ⟨K',F',hk,hm,hs,hu,hsb⟩:=h.ex
 have hn':wb∉F':=fun hm=>by
  rcases hsb wb hm with h | h
  ·exact hn h
  ·omega
 refine ⟨⟨K',F',hk.upd u (fun k hk=>by simp;rintro rfl;exact hn' hk),hm,hs,hn',(hu.mono (fun k hk=>by simp [hk])).then u (fun k hk=>.inl (by simp at hk;simp [hk])),fun k hk=>?_⟩,hb⟩
 rcases List.mem_cons.1 hk with rfl | hk
 ·exact .inl (by simp)
 ·exact (hsb k hk).imp (fun h=>by simp [h]) id
theorem sexch_spec (wb b:Nat) (K:KV) (F:List Nat) (M:MV) (at_ at' best place g sw last:Nat) (st:Value) (l d:Int) (w:World) (hb:w.heap[wb]?=some (.cells (swC b at_ best place g sw last st) 132 (0,0))) (h:KerAt w b K F) (hm:KM K M) (hn:wb∉F) (ht:M.trail.length<=1000000)
  (hd:M.exchE l=0->(at_:Int)+d=at') (hsw:sw<=1000000) (hat:at'<=64) :
  Calls Tryz.prog 162 #[.pointer (some ⟨wb,0,none⟩),.int .i64 l,.int .i64 d] w fun e w'=>e=.returned (.int .i64 (M.exchE l))/\SwQ wb b K F (M.exch l) (pickC (M.exchE l) (swC b at' best place g (sw+1) last st) (swC b at_ best place g sw last st)) w w':=by
 have c0:w.cell? ⟨wb,0,none⟩=some (.pointer (some ⟨b,0,none⟩)):=cell_at hb rfl;have HX:=Lib.hid (exch_km b l K F M w h hm ht);have HB:=Lib.hid hb;have hl:=heap_lt hb;have HN:Hid (wb∉F):=hn;have hw1:IntKind.i64.wrap ((sw:Int)+1)=(sw:Int)+1:=IntWalk.i64_in _ (by omega);have HD:=Lib.hid hd;clear h hm hb hn hd;obtain ⟨E,hE⟩ : ∃ E,M.exchE l=E:=⟨_,rfl⟩;rw [hE] at HX ⊢;have HE:=Lib.hid hE;clear hE
 go_enter Tryz.func162,Tryz.ntmps162
 go_wp2_with fail;refine HX.out.mono ?_;rintro e w1 ⟨rfl,hK⟩;obtain ⟨K',F',_,_,_,hu,_⟩:=hK.ex;have hb1:=(hu.block wb hl HN.out).trans HB.out;have HK:=Lib.hid (And.intro hK hb1);have x5:w1.cell? ⟨wb,5,none⟩=some (.int .i64 sw):=cell_at hb1 rfl;have x1:w1.cell? ⟨wb,1,none⟩=some (.int .i64 at_):=cell_at hb1 rfl;have f5:=frozen_at 5 hb1;have f1:=frozen_at 1 hb1;clear hK hu c0 hb1
 by_cases he:E=0
 ·subst he
  have hd:=HD.out HE.out
  have hw2:IntKind.i64.wrap ((at_:Int)+d)=(at':Int):=by rw [hd];exact IntWalk.i64_in _ (by omega)
  have HQ:Hid (SwQ wb b K F (M.exch l) (swC b at' best place g (sw+1) last st) w ((w1.setCell ⟨wb,5,none⟩ (.int .i64 ((sw:Int)+1))).setCell ⟨wb,1,none⟩ (.int .i64 at'))):=by
   refine SwQ.of HN.out hl HK.out.1 (((Upd.refl _ w1).setCell (p:=⟨wb,5,none⟩) (.inl (by simp)) _).setCell (p:=⟨wb,1,none⟩) (.inl (by simp)) _) ?_
   rw [heap_set_eq (heap_set_eq HK.out.2 _)];rfl
  clear hd;go_wp2_with fail;go_ret;exact ⟨rfl,HQ.out⟩
 ·have he2:(E == 0)=false:=by simpa using he
  have he3:decide (E=0)=false:=decide_eq_false he;have HQ:Hid (SwQ wb b K F (M.exch l) (swC b at_ best place g sw last st) w w1):=SwQ.of HN.out hl HK.out.1 (Upd.refl _ w1) HK.out.2;go_wp2_with fail;go_ret;refine ⟨rfl,?_⟩;unfold pickC;rw [if_neg he];exact HQ.out
def stepV (down:Bool) (bx:Nat):Value:=.func (.func (if down then 161 else 163)) #[] #[.pointer (some ⟨bx,0,none⟩)]
structure TowQ (wb b n:Nat) (down:Bool) (at_ best place g sw:Nat) (w:World) (e:Ending) (w':World):Prop where
 en:e=.returned (.tuple #[])
 ex:∃ bx,w.heap.size<=bx/\w'.heap[bx]?=some (.cells #[.pointer (some ⟨wb,0,none⟩)] 129 (0,0))/\w'.heap[wb]?=some (.cells (swC b at_ best place g sw (if down then n-1 else 0) (stepV down bx)) 132 (0,0))
 up:Upd [wb] w w'
theorem toward_spec (wb b:Nat) (K:KV) (F:List Nat) (down:Bool) (at_ best place g sw last:Nat) (st:Value) (w:World) (hb:w.heap[wb]?=some (.cells (swC b at_ best place g sw last st) 132 (0,0))) (h:KerAt w b K F) :
  Calls Tryz.prog 72 #[.pointer (some ⟨wb,0,none⟩),.bool down] w fun e w'=>TowQ wb b K.vars down at_ best place g sw w e w':=by
 have hl:=heap_lt hb;have hvs:=h.ok.wf.vs;have HB:=Lib.hid hb
 have HK:Hid (∀ z,Upd [] w z->KerAt z b K F):=fun z u=>h.upd u (by simp)
 have hxw:w.heap.size≠wb:=by omega
 have hw1:IntKind.i64.wrap ((K.vars:Int)-1)=((K.vars-1:Nat):Int):=by rw [show ((K.vars:Int)-1)=((K.vars-1:Nat):Int) by omega];exact IntWalk.i64_in _ (by omega)
 have hmf:∀ (fn:Fn) (first cap:Array Value) (w:World),(Instr.makeFunc fn first cap).run Tryz.prog w=.ok (.func fn first cap) w:=fun _ _ _ _=>rfl
 have hsf:∀ (a:Addr) (m:Mode) (fn:Fn) (first cap:Array Value) (w:World),(store a (.func fn first cap) m).run Tryz.prog w=stored Tryz.prog w a (.func fn first cap) m:=fun a m fn first cap w=>run_store Tryz.prog w a _ m rfl
 have c0:w.cell? ⟨wb,0,none⟩=some (.pointer (some ⟨b,0,none⟩)):=cell_at hb rfl;have c6:w.cell? ⟨wb,6,none⟩=some (.int .i64 last):=cell_at hb rfl;have c7:w.cell? ⟨wb,7,none⟩=some st:=cell_at hb rfl;have f6:=frozen_at 6 hb;have f7:=frozen_at 7 hb;clear hb h;have hbx:=heap_alloc_new w (.cells #[.pointer (some ⟨wb,0,none⟩)] 129 (0,0));have u1:=(Upd.refl [] w).alloc (.cells #[.pointer (some ⟨wb,0,none⟩)] 129 (0,0));have hb1:=(heap_alloc_old w (.cells #[.pointer (some ⟨wb,0,none⟩)] 129 (0,0)) hl).trans HB.out;obtain ⟨W1,hW1⟩ : ∃ W1,w.alloc (.cells #[.pointer (some ⟨wb,0,none⟩)] 129 (0,0))=W1:=⟨_,rfl⟩;rw [hW1] at hbx u1 hb1;have HW:=Lib.hid hW1;have HX:=Lib.hid (And.intro hbx (And.intro u1 hb1));have d0:W1.cell? ⟨wb,0,none⟩=some (.pointer (some ⟨b,0,none⟩)):=cell_at hb1 rfl;have d6:W1.cell? ⟨wb,6,none⟩=some (.int .i64 last):=cell_at hb1 rfl;have d7:W1.cell? ⟨wb,7,none⟩=some st:=cell_at hb1 rfl;have e6:=frozen_at 6 hb1;have e7:=frozen_at 7 hb1;have dx:W1.cell? ⟨w.heap.size,0,none⟩=some (.pointer (some ⟨wb,0,none⟩)):=cell_at hbx rfl
 have HE:Hid (∀ (n:Int) (z:World),z=W1\/(∃ k,z=W1.drewN k)->n=((if down then K.vars-1 else 0:Nat):Int)->TowQ wb b K.vars down at_ best place g sw w (.returned (.tuple #[])) ((z.setCell ⟨wb,6,none⟩ (.int .i64 n)).setCell ⟨wb,7,none⟩ (stepV down w.heap.size))):=by
  intro n z hz hn
  subst hn
  have hz1:z.heap=W1.heap:=by rcases hz with rfl | ⟨k,rfl⟩ <;> rfl
  have hz2:Upd [] w z:=by
   rcases hz with rfl | ⟨k,rfl⟩
   ·exact HX.out.2.1
   ·exact HX.out.2.1.drewN k
  refine ⟨rfl,⟨w.heap.size,Nat.le_refl _,by rw [heap_set_ne hxw,heap_set_ne hxw,hz1];exact HX.out.1,by rw [heap_set_eq (heap_set_eq (by rw [hz1];exact HX.out.2.2) _)];cases down <;> rfl⟩,((((hz2.mono (by simp))).setCell (p:=⟨wb,6,none⟩) (.inl (by simp)) _).setCell (p:=⟨wb,7,none⟩) (.inl (by simp)) _)⟩
 have HV:Hid (∀ z,Upd [] W1 z->Calls Tryz.prog 54 #[.pointer (some ⟨b,0,none⟩)] z fun e w'=>e=.returned (.int .i64 K.vars)/\w'=z):=fun z u=>vars_at b K F z (HK.out z (HX.out.2.1.trans u))
 clear c0 c6 c7 f6 f7 hbx u1 hb1 hW1
 cases down with
 | true =>
  go_enter Tryz.func72,Tryz.ntmps72
  go_upto_region 2 with fail;rw [HW.out]
  go_region_with (go_at_call 54;refine (HV.out _ (by first | exact (Upd.refl _ _).drew | exact (Upd.refl _ _))).mono ?_;rintro e w1 ⟨rfl,rfl⟩)
  all_goals
   go_wp2_with fail;go_end0;exact HE.out _ _ (.inr ⟨1,rfl⟩) rfl
 | false =>
  go_enter Tryz.func72,Tryz.ntmps72
  go_upto_region 4 with fail;rw [HW.out];go_wp2_with fail;go_end0;exact HE.out _ _ (.inl rfl) rfl
theorem step1_spec (wb bx b:Nat) (K:KV) (F:List Nat) (M:MV) (at_ best place g sw last:Nat) (st:Value) (w:World) (hb:w.heap[wb]?=some (.cells (swC b at_ best place g sw last st) 132 (0,0))) (hx:w.heap[bx]?=some (.cells #[.pointer (some ⟨wb,0,none⟩)] 129 (0,0)))
  (h:KerAt w b K F) (hm:KM K M) (hn:wb∉F) (ht:M.trail.length<=1000000) (hsw:sw<=1000000) (hat:at_+1<=64) :
  Calls Tryz.prog 161 #[.pointer (some ⟨bx,0,none⟩)] w fun e w'=>e=.returned (.int .i64 (M.exchE at_))/\SwQ wb b K F (M.exch at_) (pickC (M.exchE at_) (swC b (at_+1) best place g (sw+1) last st) (swC b at_ best place g sw last st)) w w':=by
 have c0:w.cell? ⟨bx,0,none⟩=some (.pointer (some ⟨wb,0,none⟩)):=cell_at hx rfl;have c1:w.cell? ⟨wb,1,none⟩=some (.int .i64 at_):=cell_at hb rfl
 have HC:Hid (∀ z,Upd [] w z->Calls Tryz.prog 162 #[.pointer (some ⟨wb,0,none⟩),.int .i64 at_,.int .i64 1] z fun e w'=>e=.returned (.int .i64 (M.exchE at_))/\SwQ wb b K F (M.exch at_) (pickC (M.exchE at_) (swC b (at_+1) best place g (sw+1) last st) (swC b at_ best place g sw last st)) z w'):=fun z u =>
  sexch_spec wb b K F M at_ (at_+1) best place g sw last st at_ 1 z ((u.block wb (heap_lt hb) (by simp)).trans hb) (h.upd u (by simp)) hm hn ht (fun _=>by simp) hsw hat
 have HU:Hid (∀ z w',Upd [] w z->SwQ wb b K F (M.exch at_) (pickC (M.exchE at_) (swC b (at_+1) best place g (sw+1) last st) (swC b at_ best place g sw last st)) z w'->SwQ wb b K F (M.exch at_) (pickC (M.exchE at_) (swC b (at_+1) best place g (sw+1) last st) (swC b at_ best place g sw last st)) w w'):=fun z w' u q=>by
  obtain ⟨K',F',a1,a2,a3,a4,a5,a6⟩:=q.ex;exact ⟨⟨K',F',a1,a2,a3,a4,(u.mono (by simp)).trans a5,fun k hk=>(a6 k hk).imp id fun h=>Nat.le_trans u.size h⟩,q.blk⟩
 clear hb hx h hm hn
 go_enter Tryz.func161,Tryz.ntmps161
 go_wp2_with fail
 go_region_with (go_at_call 162;refine (HC.out _ (by first | exact (Upd.refl _ _).drew | exact (Upd.refl _ _))).mono ?_;rintro e w1 ⟨rfl,q⟩;have HQ:=Lib.hid (HU.out _ _ (by first | exact (Upd.refl _ _).drew | exact (Upd.refl _ _)) q);clear q)
 all_goals
  go_wp2_with fail;go_ret;exact ⟨rfl,HQ.out⟩
theorem step2_spec (wb bx b:Nat) (K:KV) (F:List Nat) (M:MV) (at_ best place g sw last:Nat) (st:Value) (w:World) (hb:w.heap[wb]?=some (.cells (swC b at_ best place g sw last st) 132 (0,0))) (hx:w.heap[bx]?=some (.cells #[.pointer (some ⟨wb,0,none⟩)] 129 (0,0)))
  (h:KerAt w b K F) (hm:KM K M) (hn:wb∉F) (ht:M.trail.length<=1000000) (hsw:sw<=1000000) (hat:at_<=64) (h1:1<=at_) :
  Calls Tryz.prog 163 #[.pointer (some ⟨bx,0,none⟩)] w fun e w'=>e=.returned (.int .i64 (M.exchE (at_-1:Nat)))/\SwQ wb b K F (M.exch (at_-1:Nat)) (pickC (M.exchE (at_-1:Nat)) (swC b (at_-1) best place g (sw+1) last st) (swC b at_ best place g sw last st)) w w':=by
 have c0:w.cell? ⟨bx,0,none⟩=some (.pointer (some ⟨wb,0,none⟩)):=cell_at hx rfl;have c1:w.cell? ⟨wb,1,none⟩=some (.int .i64 at_):=cell_at hb rfl
 have hw1:IntKind.i64.wrap ((at_:Int)-1)=((at_-1:Nat):Int):=by rw [show ((at_:Int)-1)=((at_-1:Nat):Int) by omega];exact IntWalk.i64_in _ (by omega)
 have HC:Hid (∀ z,Upd [] w z->Calls Tryz.prog 162 #[.pointer (some ⟨wb,0,none⟩),.int .i64 (at_-1:Nat),.int .i64 (-1)] z fun e w'=>e=.returned (.int .i64 (M.exchE (at_-1:Nat)))/\SwQ wb b K F (M.exch (at_-1:Nat)) (pickC (M.exchE (at_-1:Nat)) (swC b (at_-1) best place g (sw+1) last st) (swC b at_ best place g sw last st)) z w'):=fun z u =>
  sexch_spec wb b K F M at_ (at_-1) best place g sw last st (at_-1:Nat) (-1) z ((u.block wb (heap_lt hb) (by simp)).trans hb) (h.upd u (by simp)) hm hn ht (fun _=>by omega) hsw (by omega)
 have HU:Hid (∀ z w',Upd [] w z->SwQ wb b K F (M.exch (at_-1:Nat)) (pickC (M.exchE (at_-1:Nat)) (swC b (at_-1) best place g (sw+1) last st) (swC b at_ best place g sw last st)) z w'->SwQ wb b K F (M.exch (at_-1:Nat)) (pickC (M.exchE (at_-1:Nat)) (swC b (at_-1) best place g (sw+1) last st) (swC b at_ best place g sw last st)) w w'):=fun z w' u q=>by
  obtain ⟨K',F',a1,a2,a3,a4,a5,a6⟩:=q.ex;exact ⟨⟨K',F',a1,a2,a3,a4,(u.mono (by simp)).trans a5,fun k hk=>(a6 k hk).imp id fun h=>Nat.le_trans u.size h⟩,q.blk⟩
 clear hb hx h hm hn
 go_enter Tryz.func163,Tryz.ntmps163
 go_wp2_with fail
 go_region_with (go_at_call 162;refine (HC.out _ (by first | exact (Upd.refl _ _).drew | exact (Upd.refl _ _))).mono ?_;rintro e w1 ⟨rfl,q⟩;have HQ:=Lib.hid (HU.out _ _ (by first | exact (Upd.refl _ _).drew | exact (Upd.refl _ _)) q);clear q)
 all_goals
  go_wp2_with fail;go_ret;exact ⟨rfl,HQ.out⟩
structure SwS (w0:World) (wb bx b:Nat) (K0:KV) (F0:List Nat) (M:MV) (C:Array Value) (w:World):Prop where
 ex:∃ (K:KV) (F:List Nat),KerAt w b K F/\KM K M/\Stay K0 K/\wb∉F/\bx∉F/\Upd (wb::F0) w0 w/\Sub (wb::F0) w0 (wb::F)
 blk:w.heap[wb]?=some (.cells C 132 (0,0))
 box:w.heap[bx]?=some (.cells #[.pointer (some ⟨wb,0,none⟩)] 129 (0,0))
theorem SwS.keep {w0 w w':World} {wb bx b:Nat} {K0:KV} {F0:List Nat} {M:MV} {C:Array Value} (h:SwS w0 wb bx b K0 F0 M C w) (u:Upd [] w w'):SwS w0 wb bx b K0 F0 M C w':=by
 obtain ⟨K,F,a1,a2,a3,a4,a5,a6,a7⟩:=h.ex;exact ⟨⟨K,F,a1.upd u (by simp),a2,a3,a4,a5,a6.trans (u.mono (by simp)),a7⟩,(u.block _ (heap_lt h.blk) (by simp)).trans h.blk,(u.block _ (heap_lt h.box) (by simp)).trans h.box⟩
theorem SwS.cell {w0 w:World} {wb bx b j:Nat} {K0:KV} {F0:List Nat} {M:MV} {C:Array Value} {v:Value} (h:SwS w0 wb bx b K0 F0 M C w):SwS w0 wb bx b K0 F0 M (C.setIfInBounds j v) (w.setCell ⟨wb,j,none⟩ v):=by
 obtain ⟨K,F,a1,a2,a3,a4,a5,a6,a7⟩:=h.ex;have u:Upd [wb] w (w.setCell ⟨wb,j,none⟩ v):=(Upd.refl _ w).setCell (p:=⟨wb,j,none⟩) (.inl (by simp)) _
 have hne:bx≠wb:=by
  rintro rfl;have e:=h.blk;rw [h.box] at e
  simp at e
 exact ⟨⟨K,F,a1.upd u (fun k hk=>by simp;rintro rfl;exact a4 hk),a2,a3,a4,a5,a6.trans (u.mono (fun k hk=>by simp at hk;simp [hk])),a7⟩,heap_set_eq h.blk _,(heap_set_ne hne).trans h.box⟩
theorem SwS.next {w0 w w':World} {wb bx b:Nat} {K0 K:KV} {F0 F:List Nat} {M':MV} {C C':Array Value} (a3:Stay K0 K) (a5:bx∉F) (a6:Upd (wb::F0) w0 w) (a7:Sub (wb::F0) w0 (wb::F)) (blk:w.heap[wb]?=some (.cells C 132 (0,0)))
  (box:w.heap[bx]?=some (.cells #[.pointer (some ⟨wb,0,none⟩)] 129 (0,0))) (q:SwQ wb b K F M' C' w w'):SwS w0 wb bx b K0 F0 M' C' w':=by
 obtain ⟨K',F',c1,c2,c3,c4,c5,c6⟩:=q.ex
 have hne:bx≠wb:=by
  rintro rfl;rw [box] at blk
  simp at blk
 have hbl:=heap_lt box;refine ⟨⟨K',F',c1,c2,a3.trans c3,c4,fun hm=>?_,a6.then c5 fun k hk=>a7 k hk,fun k hk=>?_⟩,q.blk,(c5.block bx hbl (by simp [hne,a5])).trans box⟩
 ·rcases c6 bx (by simp [hm]) with h1 | h1
  ·simp [hne,a5] at h1
  ·omega
 ·rcases c6 k hk with h1 | h1
  ·exact a7 k h1
  ·have:=a6.size;right;omega
def stepF (down:Bool):Nat:=if down then 161 else 163
theorem enters_step (down:Bool):Enters (stepF down):=fun args w=>by cases down <;> simp [stepF,go_sem]
theorem step_any (wb bx b:Nat) (K0:KV) (F0:List Nat) (M:MV) (p:Nat) (down:Bool) (j best place g sw last:Nat) (st:Value) (w0 w:World) (h:SwS w0 wb bx b K0 F0 (M.goS p down j) (swC b (posD p down j) best place g sw last st) w)
  (hp:p<M.n) (h64:M.n<=64) (hj:j<distD M.n p down) (ht:(M.goS p down j).trail.length<=1000000) (hsw:sw<=1000000) :
  Calls Tryz.prog (stepF down) #[.pointer (some ⟨bx,0,none⟩)] w fun e w'=>e=.returned (.int .i64 ((M.goS p down j).exchE (lvlD p down j))) /\
   SwS w0 wb bx b K0 F0 (M.goS p down (j+1)) (pickC ((M.goS p down j).exchE (lvlD p down j)) (swC b (posD p down (j+1)) best place g (sw+1) last st) (swC b (posD p down j) best place g sw last st)) w':=by
 obtain ⟨K,F,a1,a2,a3,a4,a5,a6,a7⟩:=h.ex
 cases down with
 | true =>
  simp only [distD,if_true] at hj
  have e1:lvlD p true j=posD p true j:=rfl
  have e2:posD p true (j+1)=posD p true j+1:=by simp [posD];omega
  rw [e1,e2];refine Calls.mono (step1_spec wb bx b K F (M.goS p true j) (posD p true j) best place g sw last st w h.blk h.box a1 a2 a4 ht hsw (by simp [posD];omega)) ?_;rintro e w' ⟨rfl,q⟩;exact ⟨rfl,SwS.next a3 a5 a6 a7 h.blk h.box q⟩
 | false =>
  simp only [distD,Bool.false_eq_true,if_false] at hj
  have e1:lvlD p false j=posD p false j-1:=by simp [lvlD,posD];omega
  have e2:posD p false (j+1)=posD p false j-1:=by simp [posD];omega
  have q2:M.goS p false (j+1)=(M.goS p false j).exch (posD p false j-1:Nat):=by show (M.goS p false j).exch (lvlD p false j:Nat)=_;rw [e1]
  rw [q2,e1,e2];refine Calls.mono (step2_spec wb bx b K F (M.goS p false j) (posD p false j) best place g sw last st w h.blk h.box a1 a2 a4 ht hsw (by simp [posD];omega) (by simp [posD];omega)) ?_;rintro e w' ⟨rfl,q⟩;exact ⟨rfl,SwS.next a3 a5 a6 a7 h.blk h.box q⟩
theorem MV.goS_trail {M:MV} (p:Nat) (down:Bool):∀ j,(M.goS p down j).trail.length<=M.trail.length+j
 | 0=>Nat.le_refl _
 | j+1=>by
  have ih:=MV.goS_trail (M:=M) p down j
  have:∀ (N:MV) (l:Int),(N.exch l).trail.length<=N.trail.length+1:=fun N l=>by
   unfold MV.exch;split
   ·show (N.trail++[_]).length<=_;simp
   ·omega
  have h2:=this (M.goS p down j) (lvlD p down j)
  show ((M.goS p down j).exch _).trail.length<=_
  omega
theorem KM.live_le {K:KV} {M:MV} (h:KM K M) (hk:K.Ok) (hu:K.Uni):M.live<=1048576:=by
 have h1:=h.live hk hu;have h2:=hk.wf.ok.us;have h3:=hk.wf.ok.lp;have h4:=hk.wf.ok.pm;omega
structure RunI (w0:World) (wb bx b:Nat) (K0:KV) (F0:List Nat) (M:MV) (p g:Nat) (down:Bool) (best0 place0 sw0:Nat) (j best bj:Nat) (wr:World):Prop where
 s:SwS w0 wb bx b K0 F0 (M.goS p down j) (swC b (posD p down j) best (if bj=0 then place0 else posD p down bj) g (sw0+j) (if down then M.n-1 else 0) (stepV down bx)) wr
 hj:j<=distD M.n p down
 hb:bj<=j
 bb:best<=1048576
 eq:M.runD p down g (distD M.n p down-j) j best bj=M.runD p down g (distD M.n p down) 0 best0 0
structure RunQ (w0:World) (wb bx b:Nat) (K0:KV) (F0:List Nat) (M:MV) (p g:Nat) (down:Bool) (best0 place0 sw0:Nat) (e:Ending) (w':World):Prop where
 en:e=.returned (.tuple #[])
 ex:∃ j best bj,M.runD p down g (distD M.n p down) 0 best0 0=(j,best,bj)/\best<=1048576/\SwS w0 wb bx b K0 F0 (M.goS p down j) (swC b (posD p down j) best (if bj=0 then place0 else posD p down bj) g (sw0+j) (if down then M.n-1 else 0) (stepV down bx)) w'
theorem run_spec (w0:World) (wb bx b:Nat) (K0:KV) (F0:List Nat) (M:MV) (p g:Nat) (down:Bool) (best0 place0 sw0:Nat) (w:World) (h:SwS w0 wb bx b K0 F0 M (swC b p best0 place0 g sw0 (if down then M.n-1 else 0) (stepV down bx)) w)
  (hp:p<M.n) (h64:M.n<=64) (ht:M.trail.length<=900000) (hsw:sw0<=900000) (hb0:best0<=1048576) (hg:g<=1000) :
  Calls Tryz.prog 73 #[.pointer (some ⟨wb,0,none⟩)] w fun e w'=>RunQ w0 wb bx b K0 F0 M p g down best0 place0 sw0 e w':=by
 have hen:=enters_step down
 have hdl:distD M.n p down<=64:=by unfold distD;split <;> omega
 have HS:Hid (RunI w0 wb bx b K0 F0 M p g down best0 place0 sw0 0 best0 0 w):=⟨by simpa [MV.goS,posD] using h,by omega,by omega,hb0,rfl⟩;have hst:stepV down bx=.func (.func (stepF down)) #[] #[.pointer (some ⟨bx,0,none⟩)]:=rfl;obtain ⟨fl,hfl⟩ : ∃ fl,stepF down=fl:=⟨_,rfl⟩;obtain ⟨last,hla⟩ : ∃ last,(if down then M.n-1 else 0)=last:=⟨_,rfl⟩;rw [hfl] at hst hen;clear h
 go_enter Tryz.func73,Tryz.ntmps73
 go_wp2_with fail
 go_loopg [] (distD M.n p down) (fun gg wr=>∃ (j best bj:Nat),distD M.n p down-j=gg/\RunI w0 wb bx b K0 F0 M p g down best0 place0 sw0 j best bj wr)
 case atStart=>exact ⟨0,best0,0,rfl,HS.out⟩
 case round =>
  obtain ⟨j,best,bj,rfl,hR⟩:=hrel;have hs:=hR.s;rw [hla] at hs;have c0:wr.cell? ⟨wb,0,none⟩=some (.pointer (some ⟨b,0,none⟩)):=cell_at hs.blk rfl;have c1:wr.cell? ⟨wb,1,none⟩=some (.int .i64 (posD p down j)):=cell_at hs.blk rfl;have c6:wr.cell? ⟨wb,6,none⟩=some (.int .i64 last):=cell_at hs.blk rfl;have c7:wr.cell? ⟨wb,7,none⟩=some (stepV down bx):=cell_at hs.blk rfl;rw [hst] at c7;have HR:=Lib.hid hR;have hjd:=hR.hj;have hpl:=posD_last hp hjd;rw [hla] at hpl;clear hR hs
  by_cases hd:j=distD M.n p down
  ·have hpe:posD p down j=last:=hpl.2.1 hd
   have HE:Hid (∀ z,Upd [] wr z->RunQ w0 wb bx b K0 F0 M p g down best0 place0 sw0 (.returned (.tuple #[])) z):=fun z u=>⟨rfl,j,best,bj,by rw [<- HR.out.eq,hd,Nat.sub_self];rfl,HR.out.bb,HR.out.s.keep u⟩
   rw [hpe] at c1;clear hst hfl;go_wp2_with fail
   go_quiet (fail)
   go_wp2_with fail;go_end0;exact HE.out _ ((Upd.refl _ _).drewN _)
  ·have hjl:j<distD M.n p down:=by omega
   have hpe:¬ posD p down j=last:=fun e=>hd (hpl.2.2 e)
   have hpe2:¬ ((posD p down j:Nat):Int)=(last:Int):=by omega
   have hpe3:(((posD p down j:Nat):Int) == (last:Int))=false:=by simpa using hpe2
   have hpe4:(((posD p down j:Nat):Int) != (last:Int))=true:=by rw [bne,hpe3];rfl
   have htr:=(M.goS_trail p down j)
   have HST:Hid (∀ z,Upd [] wr z->Calls Tryz.prog fl #[.pointer (some ⟨bx,0,none⟩)] z fun e w'=>e=.returned (.int .i64 ((M.goS p down j).exchE (lvlD p down j))) /\
     SwS w0 wb bx b K0 F0 (M.goS p down (j+1)) (pickC ((M.goS p down j).exchE (lvlD p down j)) (swC b (posD p down (j+1)) best (if bj=0 then place0 else posD p down bj) g (sw0+j+1) (if down then M.n-1 else 0) (stepV down bx)) (swC b (posD p down j) best (if bj=0 then place0 else posD p down bj) g (sw0+j) (if down then M.n-1 else 0) (stepV down bx))) w'):=fun z u=>by
    rw [<- hfl];exact step_any wb bx b K0 F0 M p down j best _ g (sw0+j) _ _ w0 z (HR.out.s.keep u) hp h64 hjl (by omega) (by omega)
   obtain ⟨E,hE⟩ : ∃ E,(M.goS p down j).exchE (lvlD p down j)=E:=⟨_,rfl⟩;rw [hE] at HST;have HEE:=Lib.hid hE;generalize hPC:pickC E (swC b (posD p down (j+1)) best (if bj=0 then place0 else posD p down bj) g (sw0+j+1) (if down then M.n-1 else 0) (stepV down bx)) (swC b (posD p down j) best (if bj=0 then place0 else posD p down bj) g (sw0+j) (if down then M.n-1 else 0) (stepV down bx))=PC at HST;have HPC:=Lib.hid hPC;have HFL:=Lib.hid hfl;clear hE hPC htr hst hfl;go_upto_region 0 with fail
   go_cut [19] from 3 to 19 (fun s19 wx=>s19=.bool (decide (E=0))/\SwS w0 wb bx b K0 F0 (M.goS p down (j+1)) PC wx)
   case first =>
    cases down with
    | true =>
     obtain rfl:fl=161:=HFL.out.symm;clear hen hla
     go_region_with (go_at_call 161;refine (HST.out _ (by first | exact (Upd.refl _ _).drew | exact (Upd.refl _ _))).mono ?_;rintro e w1 ⟨rfl,q⟩;have HQ:=Lib.hid q;clear q)
     all_goals
      go_wp2_with fail;go_meet;exact ⟨by congr 1,HQ.out⟩
    | false =>
     obtain rfl:fl=163:=HFL.out.symm;clear hen hla
     go_region_with (go_at_call 163;refine (HST.out _ (by first | exact (Upd.refl _ _).drew | exact (Upd.refl _ _))).mono ?_;rintro e w1 ⟨rfl,q⟩;have HQ:=Lib.hid q;clear q)
     all_goals
      go_wp2_with fail;go_meet;exact ⟨by congr 1,HQ.out⟩
   case rest =>
    obtain ⟨rfl,hq⟩:=hcut;obtain ⟨pl,hpl2⟩ : ∃ pl,(if bj=0 then place0 else posD p down bj)=pl:=⟨_,rfl⟩;have HPL:=Lib.hid hpl2;rw [hpl2,hla] at HPC;clear c0 c1 c6 c7 HST hen hpl2
    by_cases he:E=0
    ·subst he
     obtain ⟨L,hL⟩ : ∃ L,(M.goS p down (j+1)).live=L:=⟨_,rfl⟩
     obtain rfl:swC b (posD p down (j+1)) best pl g (sw0+j+1) last (stepV down bx)=PC:=by
      have:=HPC.out;unfold pickC at this;rw [if_pos rfl] at this;exact this
     have c0:wc.cell? ⟨wb,0,none⟩=some (.pointer (some ⟨b,0,none⟩)):=cell_at hq.blk rfl;have c1:wc.cell? ⟨wb,1,none⟩=some (.int .i64 (posD p down (j+1))):=cell_at hq.blk rfl;have c2:wc.cell? ⟨wb,2,none⟩=some (.int .i64 best):=cell_at hq.blk rfl;have c3:wc.cell? ⟨wb,3,none⟩=some (.int .i64 pl):=cell_at hq.blk rfl;have c4:wc.cell? ⟨wb,4,none⟩=some (.int .i64 g):=cell_at hq.blk rfl;have f2:=frozen_at 2 hq.blk;have f3:=frozen_at 3 hq.blk
     have hLV:L<=1048576/\Calls Tryz.prog 39 #[.pointer (some ⟨b,0,none⟩)] wc fun e w'=>e=.returned (.int .i64 (L:Nat))/\w'=wc:=by
      obtain ⟨K,F,a1,a2,_⟩:=hq.ex;have h1:=a2.live_le a1.ok a1.uni;have h2:=a2.live a1.ok a1.uni;rw [hL] at h1 h2;have h3:=live_at b K F wc a1;rw [h2] at h3;exact ⟨h1,h3⟩
     have HQ:=Lib.hid hq;have HLV:=Lib.hid hLV.2;have hLb:=hLV.1;have hbb:=HR.out.bb
     have hm1:IntKind.i64.wrap ((L:Int)*100)=((L*100:Nat):Int):=by rw [IntWalk.i64_in _ (by omega)];omega
     have HEQ:=Lib.hid HR.out.eq;have hjb:=HR.out.hb
     have HSTOP:Hid (∀ best',bestB L best=best'->best'*g<L*100->M.runD p down g (distD M.n p down) 0 best0 0=(j+1,best',bestJ L best (j+1) bj)):=fun best' hb' hgr=>by
      rw [<- HEQ.out,show distD M.n p down-j=(distD M.n p down-(j+1))+1 by omega];unfold MV.runD;rw [if_neg (by rw [HEE.out];simp),hL,hb',if_pos hgr]
     have HGO:Hid (∀ best',bestB L best=best'->¬ best'*g<L*100->M.runD p down g (distD M.n p down-(j+1)) (j+1) best' (bestJ L best (j+1) bj)=M.runD p down g (distD M.n p down) 0 best0 0):=fun best' hb' hgr=>by
      rw [<- HEQ.out,show distD M.n p down-j=(distD M.n p down-(j+1))+1 by omega]
      conv=>rhs;unfold MV.runD
      rw [if_neg (by rw [HEE.out];simp),hL,hb',if_neg hgr]
     clear hq hLV
     by_cases hlt:L<best
     ·have hltI:(L:Int)<(best:Int):=by omega
      have hbB:bestB L best=L:=by unfold bestB;rw [if_pos hlt]
      have hbJ:bestJ L best (j+1) bj=j+1:=by unfold bestJ;rw [if_pos hlt]
      have hLg:=Nat.mul_le_mul hLb hg
      have hm2:IntKind.i64.wrap ((L:Int)*(g:Int))=((L*g:Nat):Int):=by rw [<- Int.natCast_mul];exact IntWalk.i64_in _ (by omega)
      have HS2:Hid (SwS w0 wb bx b K0 F0 (M.goS p down (j+1)) (swC b (posD p down (j+1)) L (if bestJ L best (j+1) bj=0 then place0 else posD p down (bestJ L best (j+1) bj)) g (sw0+(j+1)) (if down then M.n-1 else 0) (stepV down bx)) ((wc.setCell ⟨wb,2,none⟩ (.int .i64 L)).setCell ⟨wb,3,none⟩ (.int .i64 (posD p down (j+1))))):=by
       rw [hbJ,if_neg (by omega),hla,<- Nat.add_assoc];exact (HQ.out.cell (j:=2) (v:=.int .i64 L)).cell (j:=3) (v:=.int .i64 (posD p down (j+1)))
      by_cases hgr:L*g<L*100
      ·have hgI:((L*g:Nat):Int)<((L*100:Nat):Int):=by omega
       have HE:Hid (∀ z,Upd [] ((wc.setCell ⟨wb,2,none⟩ (.int .i64 L)).setCell ⟨wb,3,none⟩ (.int .i64 (posD p down (j+1)))) z->RunQ w0 wb bx b K0 F0 M p g down best0 place0 sw0 (.returned (.tuple #[])) z):=fun z u =>
        ⟨rfl,j+1,L,_,HSTOP.out L hbB hgr,hLb,HS2.out.keep u⟩
       go_wp2_with fail;refine HLV.out.mono ?_;rintro e w1 ⟨rfl,rfl⟩;go_wp2_with fail
       go_quiet (fail)
       go_wp2_with fail;go_end0;exact HE.out _ ((Upd.refl _ _).drewN _)
      ·have hgI:¬ ((L*g:Nat):Int)<((L*100:Nat):Int):=by omega
       have HE:Hid (∀ z,Upd [] ((wc.setCell ⟨wb,2,none⟩ (.int .i64 L)).setCell ⟨wb,3,none⟩ (.int .i64 (posD p down (j+1)))) z->RunI w0 wb bx b K0 F0 M p g down best0 place0 sw0 (j+1) L (bestJ L best (j+1) bj) z):=fun z u =>
        ⟨HS2.out.keep u,hjl,by unfold bestJ;split <;> omega,hLb,HGO.out L hbB hgr⟩
       go_wp2_with fail;refine HLV.out.mono ?_;rintro e w1 ⟨rfl,rfl⟩;go_wp2_with fail
       go_quiet (fail)
       go_wp2_with fail
       go_roundg (distD M.n p down-(j+1))
       case measure=>omega
       case rel=>exact ⟨j+1,L,_,rfl,HE.out _ ((Upd.refl _ _).drewN _)⟩
     ·have hltI:¬ (L:Int)<(best:Int):=by omega
      have hbB:bestB L best=best:=by unfold bestB;rw [if_neg hlt]
      have hbJ:bestJ L best (j+1) bj=bj:=by unfold bestJ;rw [if_neg hlt]
      have hLg:=Nat.mul_le_mul hbb hg
      have hm2:IntKind.i64.wrap ((best:Int)*(g:Int))=((best*g:Nat):Int):=by rw [<- Int.natCast_mul];exact IntWalk.i64_in _ (by omega)
      have HS2:Hid (SwS w0 wb bx b K0 F0 (M.goS p down (j+1)) (swC b (posD p down (j+1)) best (if bestJ L best (j+1) bj=0 then place0 else posD p down (bestJ L best (j+1) bj)) g (sw0+(j+1)) (if down then M.n-1 else 0) (stepV down bx)) wc):=by
       rw [hbJ,HPL.out,hla,<- Nat.add_assoc];exact HQ.out
      by_cases hgr:best*g<L*100
      ·have hgI:((best*g:Nat):Int)<((L*100:Nat):Int):=by omega
       have HE:Hid (∀ z,Upd [] wc z->RunQ w0 wb bx b K0 F0 M p g down best0 place0 sw0 (.returned (.tuple #[])) z):=fun z u =>
        ⟨rfl,j+1,best,_,HSTOP.out best hbB hgr,hbb,HS2.out.keep u⟩
       go_wp2_with fail;refine HLV.out.mono ?_;rintro e w1 ⟨rfl,rfl⟩;go_wp2_with fail
       go_quiet (fail)
       go_wp2_with fail;go_end0;exact HE.out _ ((Upd.refl _ _).drewN _)
      ·have hgI:¬ ((best*g:Nat):Int)<((L*100:Nat):Int):=by omega
       have HE:Hid (∀ z,Upd [] wc z->RunI w0 wb bx b K0 F0 M p g down best0 place0 sw0 (j+1) best (bestJ L best (j+1) bj) z):=fun z u =>
        ⟨HS2.out.keep u,hjl,by unfold bestJ;split <;> omega,hbb,HGO.out best hbB hgr⟩
       go_wp2_with fail;refine HLV.out.mono ?_;rintro e w1 ⟨rfl,rfl⟩;go_wp2_with fail
       go_quiet (fail)
       go_wp2_with fail
       go_roundg (distD M.n p down-(j+1))
       case measure=>omega
       case rel=>exact ⟨j+1,best,_,rfl,HE.out _ ((Upd.refl _ _).drewN _)⟩
    ·have he3:decide (E=0)=false:=decide_eq_false he
     rw [he3]
     obtain rfl:swC b (posD p down j) best pl g (sw0+j) last (stepV down bx)=PC:=by
      have:=HPC.out;unfold pickC at this;rw [if_neg he] at this;exact this
     have HE:Hid (RunQ w0 wb bx b K0 F0 M p g down best0 place0 sw0 (.returned (.tuple #[])) wc):=by
      refine ⟨rfl,j,best,bj,?_,HR.out.bb,?_⟩
      ·rw [<- HR.out.eq,show distD M.n p down-j=(distD M.n p down-(j+1))+1 by omega]
       unfold MV.runD;rw [if_pos (by rw [HEE.out];exact he)]
      ·rw [HPL.out,hla]
       have e:M.goS p down (j+1)=M.goS p down j:=by
        show (M.goS p down j).exch (lvlD p down j)=_
        exact MV.exch_no (by rw [HEE.out];exact he)
       rw [<- e];exact hq
     clear hq;go_wp2_with fail;go_end0;exact HE.out
theorem MV.goS_last {M:MV} {p:Nat} {down:Bool} {j:Nat} (hok:M.okD p down (j+1)):(M.goS p down (j+1)).trail=(M.goS p down j).trail++[lvlD p down j]:=by
 obtain ⟨_,_,_,e⟩:=MV.exch_yes (hok j (by omega))
 show ((M.goS p down j).exch (lvlD p down j)).trail=_
 rw [e]
 show (M.goS p down j).trail++[(lvlD p down j:Int).toNat]=_
 rw [Int.toNat_natCast]
theorem sundo_spec (w0:World) (wb bx b:Nat) (K0:KV) (F0:List Nat) (M:MV) (p j k:Nat) (down:Bool) (best place g sw last:Nat) (st:Value) (w:World) (h:SwS w0 wb bx b K0 F0 (M.goS p down j) (swC b (posD p down j) best place g sw last st) w)
  (ho:M.order.length=M.n) (hok:M.okD p down j) (hj:j<=distD M.n p down) (hk:k<=j) (hp:p<M.n) (h64:M.n<=64) (ht:M.trail.length<=900000) (hsw:sw<=900000) :
  Calls Tryz.prog 74 #[.pointer (some ⟨wb,0,none⟩),.int .i64 (posD p down k)] w fun e w'=>e=.returned (.tuple #[])/\SwS w0 wb bx b K0 F0 (M.goS p down k) (swC b (posD p down k) best place g (sw+(j-k)) last st) w':=by
 have hdl:distD M.n p down<=64:=by unfold distD;split <;> omega
 have HS:=Lib.hid h;clear h;obtain ⟨goal,hgoal⟩ : ∃ goal,posD p down k=goal:=⟨_,rfl⟩;rw [hgoal]
 go_enter Tryz.func74,Tryz.ntmps74
 go_wp2_with fail
 go_loopg [] (j-k) (fun gg wr=>∃ i:Nat,i-k=gg/\k<=i/\i<=j/\SwS w0 wb bx b K0 F0 (M.goS p down i) (swC b (posD p down i) best place g (sw+(j-i)) last st) wr)
 case atStart=>exact ⟨j,rfl,hk,Nat.le_refl _,by rw [Nat.sub_self];exact HS.out⟩
 case round =>
  obtain ⟨i,rfl,hki,hij,hq⟩:=hrel;have c0:wr.cell? ⟨wb,0,none⟩=some (.pointer (some ⟨b,0,none⟩)):=cell_at hq.blk rfl;have c1:wr.cell? ⟨wb,1,none⟩=some (.int .i64 (posD p down i)):=cell_at hq.blk rfl;have hinj:=posD_inj (n:=M.n) (p:=p) (down:=down) (j:=i) (k:=k) (by omega) (by omega);rw [hgoal] at hinj
  by_cases he:i=k
  ·subst he
   rw [hinj.2 rfl] at c1;have HE:=Lib.hid hq;clear hq;go_wp2_with fail;go_end0;rw [<- hgoal];exact ⟨rfl,HE.out⟩
  ·obtain ⟨i,rfl⟩ : ∃ i',i=i'+1:=⟨i-1,by omega⟩
   have hne:¬ ((posD p down (i+1):Nat):Int)=(goal:Int):=fun e=>he (hinj.1 (by omega))
   have hne2:(((posD p down (i+1):Nat):Int) == (goal:Int))=false:=by simpa using hne
   have hoki:M.okD p down (i+1):=fun x hx=>hok x (by omega)
   have htl:=MV.goS_last hoki;have hud:=MV.goS_undo ho hoki;have htn:=M.goS_trail p down (i+1);obtain ⟨K,F,a1,a2,a3,a4,a5,a6,a7⟩:=hq.ex;have hU:=undo_km b K F _ wr a1 a2 (by omega) (by rw [htl];simp);rw [hud,htl,show ((M.goS p down i).trail++[lvlD p down i]).getLastD 0=lvlD p down i by simp] at hU;have HU:=Lib.hid hU;have HA:=Lib.hid (And.intro a3 (And.intro a4 (And.intro a5 (And.intro a6 (And.intro a7 (And.intro hq.blk hq.box))))))
   have hsw1:sw+(j-i)=sw+(j-(i+1))+1:=by omega
   clear hq a1 a2 a3 a4 a5 a6 a7 hU htl hud htn hinj;go_wp2_with fail;refine HU.out.mono ?_;rintro e w1 ⟨rfl,hK⟩;obtain ⟨K',F',_,_,_,hu,_⟩:=hK.ex;have hb1:=(hu.block wb (heap_lt HA.out.2.2.2.2.2.1) HA.out.2.1).trans HA.out.2.2.2.2.2.1;have HK:=Lib.hid (And.intro hK hb1);have x5:w1.cell? ⟨wb,5,none⟩=some (.int .i64 ((sw+(j-(i+1)):Nat))):=cell_at hb1 rfl;have x1:w1.cell? ⟨wb,1,none⟩=some (.int .i64 (posD p down (i+1))):=cell_at hb1 rfl;have f5:=frozen_at 5 hb1;have f1:=frozen_at 1 hb1;obtain ⟨s1,hs1⟩ : ∃ s1,sw+(j-(i+1))=s1:=⟨_,rfl⟩;rw [hs1] at x5 hsw1
   have hs900:s1<=1000000:=by omega
   have hw1:IntKind.i64.wrap ((s1:Int)+1)=((s1:Int)+1):=IntWalk.i64_in _ (by omega)
   have HN:Hid (SwS w0 wb bx b K0 F0 (M.goS p down i) (swC b (posD p down i) best place g (s1+1) last st) ((w1.setCell ⟨wb,5,none⟩ (.int .i64 ((s1:Int)+1))).setCell ⟨wb,1,none⟩ (.int .i64 (posD p down i)))):=by
    refine SwS.next HA.out.1 HA.out.2.2.1 HA.out.2.2.2.1 HA.out.2.2.2.2.1 HA.out.2.2.2.2.2.1 HA.out.2.2.2.2.2.2 (SwQ.of HA.out.2.1 (heap_lt HA.out.2.2.2.2.2.1) HK.out.1 (((Upd.refl _ w1).setCell (p:=⟨wb,5,none⟩) (.inl (by simp)) _).setCell (p:=⟨wb,1,none⟩) (.inl (by simp)) _) ?_)
    rw [heap_set_eq (heap_set_eq HK.out.2 _),hs1];rfl
   clear hK hu c0 c1 hb1
   cases down with
   | true =>
    simp only [distD,if_true] at hj
    have hl1:lvlD p true i=posD p true i:=rfl
    have hlt:((posD p true i:Nat):Int)<((posD p true (i+1):Nat):Int):=by simp [posD];omega
    rw [hl1];generalize posD p true (i+1)=P1 at *;generalize hP0:posD p true i=P0 at *;go_wp2_with fail
    go_roundg (i-k)
    case measure=>omega
    case rel=>exact ⟨i,rfl,by omega,by omega,by rw [hsw1,hP0];exact HN.out⟩
   | false =>
    simp only [distD,Bool.false_eq_true,if_false] at hj
    have hl1:lvlD p false i=posD p false (i+1):=by simp [lvlD,posD];omega
    have hl2:((posD p false (i+1):Nat):Int)+1=(posD p false i:Nat):=by simp [posD];omega
    have hp64:posD p false (i+1)<=64:=by simp [posD];omega
    have hnl:¬ ((posD p false (i+1):Nat):Int)<((posD p false (i+1):Nat):Int):=by omega
    rw [hl1];generalize posD p false (i+1)=P1 at *;generalize hP0:posD p false i=P0 at *
    have hw2:IntKind.i64.wrap ((P1:Int)+1)=(P0:Int):=by rw [hl2];exact IntWalk.i64_in _ (by omega)
    go_wp2_with fail
    go_roundg (i-k)
    case measure=>omega
    case rel=>exact ⟨i,rfl,by omega,by omega,by rw [hsw1,hP0];exact HN.out⟩
def growE (g:Int):Int:=if g<100\/1000<g then 1 else 0
theorem scheck_spec (b:Nat) (g:Int) (w:World) :
  Calls Tryz.prog 70 #[.pointer (some ⟨b,0,none⟩),.int .i64 g] w fun e w'=>e=.returned (.int .i64 (growE g))/\w'=w:=by
 obtain ⟨E,hE⟩ : ∃ E,growE g=E:=⟨_,rfl⟩;rw [hE];have HE:=Lib.hid hE;clear hE
 by_cases h1:g<100
 ·have HD:=Lib.hid h1
  have hd:decide (g<100)=true:=decide_eq_true h1
  obtain rfl:E=1:=by rw [<- HE.out];unfold growE;rw [if_pos (.inl HD.out)]
  clear h1
  go_enter Tryz.func70,Tryz.ntmps70
  go_wp2_with fail;go_ret;exact ⟨rfl,rfl⟩
 ·have HD:=Lib.hid h1
  have hd:decide (g<100)=false:=decide_eq_false h1
  by_cases h2:1000<g
  ·obtain rfl:E=1:=by rw [<- HE.out];unfold growE;rw [if_pos (.inr h2)]
   clear h1
   go_enter Tryz.func70,Tryz.ntmps70
   go_wp2_with fail;go_ret;exact ⟨rfl,rfl⟩
  ·obtain rfl:E=0:=by rw [<- HE.out];unfold growE;rw [if_neg (by omega)]
   clear h1
   go_enter Tryz.func70,Tryz.ntmps70
   go_wp2_with fail;go_ret;exact ⟨rfl,rfl⟩
theorem level_at (b v:Nat) (K:KV) (F:List Nat) (w:World) (h:KerAt w b K F) (hv:v<K.vars) :
  Calls Tryz.prog 71 #[.pointer (some ⟨b,0,none⟩),.int .i64 v] w fun e w'=>e=.returned (.tuple #[.int .i64 (K.lev v),.int .i64 0])/\w'=w:=by
 obtain ⟨T,q,hk,rfl⟩:=h;have hll:=hk.ok.ord.pm.ll;have hvs:=hk.ok.wf.vs;obtain ⟨g,c,hq,_,_⟩:=hk.mem.ls.form (by omega);have c6:w.cell? ⟨b,6,none⟩=some q.lv:=cell_at hk.mem.blk rfl
 have cl:w.cell? ⟨g,v,none⟩=some (.int .i64 (K.lev v)):=by
  have:=hk.mem.ls;rw [hq] at this;exact row_cell this (by simp [flatN,KV.lev,show v<K.level.length by omega])
 rw [hq] at c6;have HV:=Lib.hid (variable_spec b v K T q w hk.mem);rw [show K.isVar v=true by simp [KV.isVar,hv]] at HV
 have h0:¬ ((v:Int)<0):=by omega
 have hi:(v:Int)<(K.level.length:Int):=by omega
 clear hk hq
 go_enter Tryz.func71,Tryz.ntmps71
 go_wp2_with fail;refine HV.out.mono ?_;rintro e w1 ⟨rfl,rfl⟩;go_wp2_with fail;go_ret2;exact ⟨rfl,rfl⟩
theorem level_no (b:Nat) (v:Int) (K:KV) (F:List Nat) (w:World) (h:KerAt w b K F) (hv:K.isVar v=false) :
  Calls Tryz.prog 71 #[.pointer (some ⟨b,0,none⟩),.int .i64 v] w fun e w'=>e=.returned (.tuple #[.int .i64 0,.int .i64 2])/\w'=w:=by
 obtain ⟨T,q,hk,rfl⟩:=h;have HV:=Lib.hid (variable_spec b v K T q w hk.mem);rw [hv] at HV;clear hk hv
 go_enter Tryz.func71,Tryz.ntmps71
 go_wp2_with fail;refine HV.out.mono ?_;rintro e w1 ⟨rfl,rfl⟩;go_wp2_with fail;go_ret2;exact ⟨rfl,rfl⟩
structure SwW (w0:World) (wb b:Nat) (K0:KV) (F0:List Nat) (M:MV) (C:Array Value) (w:World):Prop where
 ex:∃ (K:KV) (F:List Nat),KerAt w b K F/\KM K M/\Stay K0 K/\wb∉F/\Upd (wb::F0) w0 w/\Sub (wb::F0) w0 (wb::F)
 blk:w.heap[wb]?=some (.cells C 132 (0,0))
theorem SwS.w {w0 w:World} {wb bx b:Nat} {K0:KV} {F0:List Nat} {M:MV} {C:Array Value} (h:SwS w0 wb bx b K0 F0 M C w):SwW w0 wb b K0 F0 M C w:=by
 obtain ⟨K,F,a1,a2,a3,a4,a5,a6,a7⟩:=h.ex;exact ⟨⟨K,F,a1,a2,a3,a4,a6,a7⟩,h.blk⟩
theorem SwW.toward {w0 w:World} {wb b:Nat} {K0:KV} {F0:List Nat} {M:MV} {at_ best place g sw last:Nat} {st:Value} (h:SwW w0 wb b K0 F0 M (swC b at_ best place g sw last st) w) (down:Bool) :
  Calls Tryz.prog 72 #[.pointer (some ⟨wb,0,none⟩),.bool down] w fun e w'=>e=.returned (.tuple #[])/\∃ bx,SwS w0 wb bx b K0 F0 M (swC b at_ best place g sw (if down then M.n-1 else 0) (stepV down bx)) w':=by
 obtain ⟨K,F,a1,a2,a3,a4,a6,a7⟩:=h.ex;refine (toward_spec wb b K F down at_ best place g sw last st w h.blk a1).mono ?_;rintro e w' hQ;obtain ⟨bx,h1,h2,h3⟩:=hQ.ex;have hn:=a2.agr.same.n;refine ⟨hQ.en,bx,⟨⟨K,F,a1.upd hQ.up (fun k hk=>by simp;rintro rfl;exact a4 hk),a2,a3,a4,fun hm=>?_,a6.trans (hQ.up.mono (by simp)),a7⟩,by rw [hn];exact h3,h2⟩⟩;have:=a1.lt _ hm;omega
theorem live_sw {w0 w:World} {wb b:Nat} {K0:KV} {F0:List Nat} {M:MV} {C:Array Value} (h:SwW w0 wb b K0 F0 M C w):∀ z,Upd [] w z->Calls Tryz.prog 39 #[.pointer (some ⟨b,0,none⟩)] z fun e w'=>e=.returned (.int .i64 M.live)/\w'=z:=fun z u=>by
 obtain ⟨K,F,a1,a2,_⟩:=h.ex;have:=live_at b K F z (a1.upd u (by simp));rw [a2.live a1.ok a1.uni] at this;exact this
end Go.Proofs.YtpfafhmkbcahhaaGreat
