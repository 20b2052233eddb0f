import Derived.Test.YtfkopmhpppeheaaGreatPN36
import Derived.Test.YtfkopmhpppeheaaGreatPN32
import Derived.Test.YtfkopmhpppeheaaGreatPN30
set_option maxRecDepth 100000
set_option maxHeartbeats 12800000
namespace Go.Proofs.YtfkopmhpppeheaaGreat
open Go.RowKit Go.Maps Go.ChangeMaps Go.WideShapes
theorem Oo {W:World} {mb:Nat} (h:W.heap[mb]?=some (.map #[] 0)):W.ownsMap Tryz.prog 3 (plainElem (H:=Unit) Tryz.prog 3) mb 0 (.map []):=by
 obtain ⟨es,clock,q1,q2,q3,q4⟩:=World.ownsMap_made W Tryz.prog 3 (plainElem (H:=Unit) Tryz.prog 3);rw [heap_alloc_new] at q1;cases q1;exact ⟨#[],0,h,q2,Nat.zero_le _,rfl⟩
theorem KR {W:World} {mb:Nat} (h:W.heap[mb]?=some (.map #[] 0)):W.ownsMap Tryz.prog 116 (plainElem (H:=Unit) Tryz.prog 77) mb 0 (.map []):=by
 obtain ⟨es,clock,q1,q2,q3,q4⟩:=World.ownsMap_made W Tryz.prog 116 (plainElem (H:=Unit) Tryz.prog 77);rw [heap_alloc_new] at q1;cases q1;exact ⟨#[],0,h,q2,Nat.zero_le _,rfl⟩
theorem KV.Perm.KT {K:KV} (hp:K.Perm):K.order.Nodup :=
 List.pairwise_iff_getElem.2 fun i j hi hj hij e=>by
  have a:=(hp.lU (List.getElem?_eq_getElem hi)).2;have b:=(hp.lU (List.getElem?_eq_getElem hj)).2
  rw [e] at a;omega
theorem WW {K:KV} (hk:K.Ok) {w:World} {lm i v:Nat} {S:DM} (hv:K.order[i]?=some v) (h:kJ kI 64 (fun v=>(K.lev v:Int)) (K.order.take i) S) (hM:w.ownsMap Tryz.prog 3 (plainElem (H:=Unit) Tryz.prog 3) lm (Maps.size S) S) :
  ∃ w1:World,(Instr.mapUpdate 185 (.map (some lm)) (.int .i64 v) (.int .i64 i)).run Tryz.prog w=.ok () w1/\af [lm] w w1/\∃ S1,kJ kI 64 (fun v=>(K.lev v:Int)) (K.order.take (i+1)) S1/\w1.ownsMap Tryz.prog 3 (plainElem (H:=Unit) Tryz.prog 3) lm (Maps.size S1) S1:=by
 have zx:=hk.wf.vs;have ol:=hk.ord.pm.ol;have fF:=(List.getElem?_eq_some_iff.1 hv).1;obtain ⟨gK,Ht⟩:=hk.ord.pm.lU hv;have AL:K.order.Nodup:=hk.ord.pm.KT;have dG:=h.size Oj (AL.sublist (List.take_sublist _ _)) (fun r hr=>by have:=hk.ord.pm.mP (List.mem_of_mem_take hr);omega) (hM.canon lF) (hM.tidy lF);rw [List.length_take] at dG;obtain ⟨w1,WV,Zt,t1⟩:=hM.store lF Tryz.underlying185 (by unfold maxLen;omega) (keyOf_int_mk Tryz.underlying3 (vw (n:=(v:Int)) (by omega) (by omega))) (plainElem_int (H:=Unit) Tryz.underlying3 (vw (n:=(i:Int)) (by omega) (by omega)));have h1:=h.put (fun _=>trivial) Oj (r:=v) (by omega);rw [List.take_add_one,hv];refine ⟨w1,WV,gG t1,_,h1,?_⟩;rw [Ht];exact dZ Zt
theorem Oq (n:Nat):madeCells #[Value.int .i64 0] n=lX (List.replicate n 0):=by
 apply Array.ext
 ·simp [size_madeCells,lX]
 ·intro i h1 h2
  simp [madeCells,lX,Nat.mod_one]
theorem RQ (w:World) (n:Nat) (hn:n<=64):(Instr.makeSlice 23 (.int .i64 n) (.int .i64 n)).run Tryz.prog w=.ok (.slice (some ⟨w.heap.size,0,none⟩) n n) (w.alloc (.cells (lX (List.replicate n 0)) 3 (0,0))):=by
 obtain ⟨i,q1,q2,q3,q4⟩:=info_parts Tryz.xB;have h:=run_make (P:=Tryz.prog) w 23 3 i (.int .i64 0) Tryz.underlying23 q1 q2 .i64 .i64 n n (by omega) (by omega) (by rw [q4];omega) (by omega);rw [q3,show (Value.int IntKind.i64 0).cells=#[Value.int .i64 0] from rfl,Nat.mul_one,Int.toNat_natCast,Oq] at h;exact h
theorem rq.start {lm sm:Nat} {K:KV} (_hk:K.Ok) {w0 wC wD:World} {rv:Value} (h0:w0.heap.size<=lm) (h1:lm<sm) (h2:sm+2<=wC.heap.size) (hu:af [] w0 wC) (hl:∃ S,kJ kI 64 (fun v=>(K.lev v:Int)) K.order S/\wC.ownsMap Tryz.prog 3 (plainElem (H:=Unit) Tryz.prog 3) lm (Maps.size S) S)
  (hs:wC.heap[sm]?=some (.map #[] 0)) (hd:wC.heap[sm+1]?=some (.map #[] 0)) (hr:wD.ownsRow wC.heap.size 77 1 rv K.roots.length (aI K.roots)) (huD:af [] wC wD) :
  rq lm sm (sm+1) wD.heap.size K w0 [] K.roots rv (wD.alloc (.cells (lX (List.replicate K.vars 0)) 3 (0,0))):=by
 have dG:=hu.size;have BB:=huD.size;have u2:af [] wC (wD.alloc (.cells (lX (List.replicate K.vars 0)) 3 (0,0))):=huD.alloc _;obtain ⟨S,a,c⟩:=hl;refine ⟨⟨S,a,aV c (u2.block _ c.lt (by simp))⟩,⟨_,nV.nil K,dZ (KR ((u2.block _ (ah hs) (by simp)).trans hs))⟩,⟨_,kJ.nil _ _ _,dZ (BI ((u2.block _ (ah hd) (by simp)).trans hd))⟩,?_,?_,fun k hk=>?_,⟨by omega,by omega,by omega,by omega,by omega,by omega⟩,⟨by omega,by omega,by omega,by omega⟩,hu.trans u2⟩
 ·rw [K.WT];exact heap_alloc_new wD _
 ·exact df (ai hr fun k hk=>((af.refl [] wD).alloc _).block k (hr.lt k hk).2 (by simp)) dG
 ·have:=hr.lt k hk
  exact ⟨by omega,by omega,by omega,by omega⟩
theorem ru (b:Nat) (K:KV) (F:List Nat) (w:World) (hK:aZ w b K F) :
  Calls Tryz.prog 45 #[.pointer (some ⟨b,0,none⟩),.int .i64 K.vars] w fun e w'=>e=.returned (.bool true)/\af [] w w':=by
 have OI:=@run_makeMap Tryz.prog;obtain ⟨tr,r1,r2,r3,r4⟩:=info_parts Tryz.infoRefS;have Kr:=Lib.hid (And.intro r1 (And.intro r2 (And.intro r3 r4)));have HK:=Lib.hid hK;have zx:=hK.ok.wf.vs;have ol:=hK.ok.ord.pm.ol;obtain ⟨n,hn⟩ : ∃ n,K.vars=n:=⟨_,rfl⟩;rw [hn];rw [hn] at zx ol;have HN:=Lib.hid hn;have h0:=heap_alloc_new w (.map #[] 0);have wO:af [] w (w.alloc (.map #[] 0)):=(af.refl _ _).alloc _;obtain ⟨w1,pX⟩ : ∃ w1,w.alloc (.map #[] 0)=w1:=⟨_,rfl⟩;rw [pX] at h0 wO;have nU:=Lib.hid pX;have UK:=Lib.hid (jC b K F w1 (hK.upd wO (by simp)));rw [ol] at UK;have Et:=Lib.hid (And.intro (Oo h0) (And.intro wO (ah h0)));clear hK hn r1 r2 r3 r4 h0 wO pX
 go_enter Tryz.func45,Tryz.ntmps45
 go_upto_region 2 with fail;rw [nU.out];have HFL:Hid (∀ k,k∈F->k<w.heap.size):=HK.out.lt;generalize hlm:w.heap.size=lm at *;have HLM:=Lib.hid hlm;clear hlm;go_wp2_with fail;refine UK.out.mono ?_;rintro e w2 ⟨og,ocp,rfl,hor,jE⟩
 have ag5:lm<og:=by have:=hor.lt og (by simp [Value.ownBlock]);have:=Et.out.2.2;omega
 have HO:=Lib.hid (And.intro hor (And.intro jE ag5));clear hor jE ag5;go_wp2_with fail
 go_loopg [34] n (fun g s34 wr=>∃ (i:Nat) (S:DM),n-i=g/\i<=n/\s34=.int .i64 i/\kJ kI 64 (fun v=>(K.lev v:Int)) (K.order.take i) S/\wr.ownsMap Tryz.prog 3 (plainElem (H:=Unit) Tryz.prog 3) lm (Maps.size S) S/\af [lm] w2 wr)
 case atStart=>exact ⟨0,.map [],by omega,by omega,rfl,kJ.nil _ _ _,dZ (aV Et.out.1 (HO.out.2.1.block _ Et.out.2.2 (by simp))),af.refl _ _⟩
 case round =>
  obtain ⟨i,S,rfl,hi,rfl,hS,hM,hu⟩:=hrel
  by_cases aW:i<n
  ·have aC:=ai HO.out.1 fun k hk=>by
    have dB:og=k:=by simpa [Value.ownBlock] using hk
    subst dB;exact hu.block og (HO.out.1.lt og hk).2 (by simp;have:=HO.out.2.2;omega)
   have cv:=nM aC (j:=i) (by rw [ol];exact aW);have hvi:K.order[i]?=some (K.order.getD i 0):=qV (by rw [ol];exact aW);generalize K.order.getD i 0=v at *;obtain ⟨w3,atr,fG,S3,hS3,Ws⟩:=WW HK.out.ok hvi hS hM
   have fF:(i:Int)<(n:Int):=by omega
   have HR:Hid (kJ kI 64 (fun v=>(K.lev v:Int)) (K.order.take (i+1)) S3/\w3.ownsMap Tryz.prog 3 (plainElem (H:=Unit) Tryz.prog 3) lm (Maps.size S3) S3/\af [lm] w2 w3):=⟨hS3,Ws,hu.trans fG⟩;clear hS hM hu aC hvi fG hS3 Ws;go_wp2_with fail
   go_roundg (n-(i+1))
   case measure=>omega
   case rel=>exact ⟨i+1,S3,rfl,by omega,by simp,HR.out.1,HR.out.2.1,HR.out.2.2⟩
  ·obtain rfl:n=i:=by omega
   have fF:¬ ((n:Int)<(n:Int)):=by omega
   rw [List.take_of_length_le (by omega)] at hS;have dG:=hS.size Oj HK.out.ok.ord.pm.KT (fun r hr=>by have:=HK.out.ok.ord.pm.mP hr;have:=HN.out;omega) (hM.canon lF) (hM.tidy lF);rw [ol] at dG;have hlen:=World.ownsMap.len hM Tryz.underlying185 3;rw [dG] at hlen;have HS:=Lib.hid (And.intro hS (And.intro hM hu));clear hS hM hu dG;have hbC:=heap_alloc_new (wr.alloc (.map #[] 0)) (.map #[] 0);have hbB:((wr.alloc (.map #[] 0)).alloc (.map #[] 0)).heap[wr.heap.size]?=some (.map #[] 0):=(heap_alloc_old _ _ (ah (heap_alloc_new wr (.map #[] 0)))).trans (heap_alloc_new wr (.map #[] 0));have huC:af [] wr ((wr.alloc (.map #[] 0)).alloc (.map #[] 0)):=((af.refl _ _).alloc _).alloc _;rw [World.size_alloc] at hbC;obtain ⟨wC,hwC⟩ : ∃ wC,(wr.alloc (.map #[] 0)).alloc (.map #[] 0)=wC:=⟨_,rfl⟩;rw [hwC] at hbC hbB huC;have HWC:=Lib.hid hwC;have HC:=Lib.hid (And.intro hbB (And.intro hbC huC));clear hbB hbC huC hwC;go_upto_region 11 with fail;rw [HWC.out];have Rx:af [] w wC:=((Et.out.2.1.trans HO.out.2.1).then HS.out.2.2 fun k hk=>.inr (by simp at hk;subst hk;exact Nat.le_of_eq HLM.out)).trans HC.out.2.2;have HRO:=Lib.hid (JK b K F wC (HK.out.upd Rx (by simp)));have OE:=Lib.hid Rx;have BN:Hid (lm<wr.heap.size):=HS.out.2.1.lt;generalize hsm:wr.heap.size=sm at *
   have HSQ:Hid (sm+2<=wC.heap.size):=by have:=ah HC.out.2.1;show sm+2<=wC.heap.size;omega
   have QA:Hid (∃ S,kJ kI 64 (fun v=>(K.lev v:Int)) K.order S/\wC.ownsMap Tryz.prog 3 (plainElem (H:=Unit) Tryz.prog 3) lm (Maps.size S) S):=⟨S,HS.out.1,aV HS.out.2.1 (HC.out.2.2.block _ HS.out.2.1.lt (by simp))⟩;clear Rx hsm hlen;go_wp2_with fail;refine HRO.out.mono ?_;rintro e wD ⟨rv,rfl,hrr,huD⟩;obtain ⟨ra,rc,rfl,_⟩:=aj hrr;have hSR:=rq.start HK.out.ok (lm:=lm) (sm:=sm) (w0:=w) (Nat.le_of_eq HLM.out) BN.out HSQ.out OE.out QA.out HC.out.1 HC.out.2.1 hrr huD;rw [HN.out] at hSR;have hmk:=RQ wD n (by omega);have HSR:=Lib.hid hSR;obtain ⟨RL,XI⟩ : ∃ RL,K.roots.length=RL:=⟨_,rfl⟩;have NR:=Lib.hid XI;rw [XI];clear hrr huD hSR XI;go_upto_region 13 with fail;generalize wD.alloc (.cells (lX (List.replicate n 0)) 3 (0,0))=wE at *;generalize wD.heap.size=wg at *;clear hmk
   have HWG:Hid (∀ D L lv z,rq lm sm (sm+1) wg K w D L lv z->wg<z.heap.size/\sm+1<z.heap.size/\sm<z.heap.size):=fun D L lv z h=>⟨ah h.wd,by obtain ⟨_,_,h3⟩:=h.dn;exact h3.lt,by obtain ⟨_,_,h3⟩:=h.sn;exact h3.lt⟩
   go_wp2_with fail
   go_loopg [10,12] (3*K.A.used+K.roots.length) (fun g s10 s12 wr=>∃ (i:Nat) (D L:List Nat),3*(K.A.used-D.length)+(L.length-i)=g/\s12=.int .i64 i/\rq lm sm (sm+1) wg K w D L s10 wr/\qZ K D L i)
   case atStart=>exact ⟨0,[],K.roots,by simp,rfl,by rw [<- NR.out];exact HSR.out,qZ.start HK.out.ok⟩
   case round =>
    obtain ⟨i,D,L,rfl,rfl,hR,hE⟩:=hrel;have ag6:=hE.lens HK.out.ok;have uP:=HK.out.ok.used_m;obtain ⟨ta,tc,rfl,_⟩:=aj hR.row;have amz:=hE.il
    by_cases aW:i<L.length
    ·obtain ⟨r,hr⟩ : ∃ r,L[i]?=some r:=⟨_,List.getElem?_eq_getElem aW⟩
     obtain ⟨tg,rfl⟩:=bC hR.row (by omega);have cr:=au hR.row (jZ hr);have kC:=hE.tl r (List.mem_of_getElem? hr);have rF:=HK.out.ok.bZ kC;obtain ⟨c,gW,_⟩:=hR.done rF
     have fF:(i:Int)<(L.length:Int):=by omega
     by_cases hd:r∈D
     ·rw [decide_eq_true hd] at gW
      have HQ:=Lib.hid (And.intro hR (hE.skip hr (.inl hd)));clear hR hE hr hd;go_wp2_with fail
      go_roundg (3*(K.A.used-D.length)+(L.length-(i+1)))
      case measure=>omega
      case rel=>exact ⟨i+1,D,L,rfl,by simp,HQ.out.1,HQ.out.2⟩
     ·rw [decide_eq_false hd] at gW
      by_cases h2:r<2
      ·have HQ:=Lib.hid (And.intro hR (hE.skip hr (.inr h2)))
       have WS:r=0\/r=1:=by omega
       clear hR hE hr hd
       rcases WS with h5 | h5
       ·have wM:((r:Int) == 0)=true:=by simp;omega
        have atx:(r:Int)=0->True:=fun _=>trivial
        clear h5 h2;go_wp2_with fail
        go_roundg (3*(K.A.used-D.length)+(L.length-(i+1)))
        case measure=>omega
        case rel=>exact ⟨i+1,D,L,rfl,by simp,HQ.out.1,HQ.out.2⟩
       ·have wM:((r:Int) == 0)=false:=by simp;omega
        have Ag:((r:Int) == 1)=true:=by simp;omega
        clear h5 h2;go_wp2_with fail
        go_roundg (3*(K.A.used-D.length)+(L.length-(i+1)))
        case measure=>omega
        case rel=>exact ⟨i+1,D,L,rfl,by simp,HQ.out.1,HQ.out.2⟩
      ·have Vh:2<=r:=by omega
       obtain ⟨p,pv,hp,aH,kD,Om,Pm,Pn,_⟩:=HK.out.ok.place Vh kC;have hne:=HK.out.ok.ord.ne r p Vh hp aH;have RD:=HK.out.ok.bZ Pm;have RF:=HK.out.ok.bZ Pn
       have Yf:Hid (Calls Tryz.prog 48 #[.pointer (some ⟨b,0,none⟩),.int .u32 r] wr fun e w'=>e=.returned (.tuple #[.agg #[.int .i64 pv,.int .u32 p.lo,.int .u32 p.hi],.int .i64 0])/\af [] wr w'):=by
        rw [<- kD];exact ug b r K F p wr (HK.out.upd hR.up (by simp)) hp aH
       have ac7:Hid (qZ K (D++[r]) (L++[p.lo,p.hi]) (i+1)):=hE.node HK.out.ok hr hd Vh hp aH
       have Qd:D.length+1<=K.A.used:=by
        have:=ac7.out.lens HK.out.ok
        simp at this;omega
       have HNT:Hid (∀ z,af [] wr z->(∃ c:Int,(Instr.lookup 186 (.map (some sm)) (.agg #[.int .i64 pv,.int .u32 p.lo,.int .u32 p.hi]) true).run Tryz.prog z=.ok (.tuple #[.int .u32 c,.bool false]) z) /\
        ∃ w1 w2:World,(Instr.mapUpdate 186 (.map (some sm)) (.agg #[.int .i64 pv,.int .u32 p.lo,.int .u32 p.hi]) (.int .u32 r)).run Tryz.prog z=.ok () w1 /\
        (Instr.lookup 185 (.map (some lm)) (.int .i64 pv) false).run Tryz.prog w1=.ok (.int .i64 (K.lev pv:Nat)) w1 /\
        (Instr.mapUpdate 114 (.map (some (sm+1))) (.int .u32 r) (.int .i64 (K.lev pv:Nat))).run Tryz.prog w1=.ok () w2 /\
        af [sm] z w1/\af [sm+1] w1 w2/\w2.heap[wg]?=some (.cells (lX (K.sF D)) 3 (0,0)) /\
        rq lm sm (sm+1) wg K w (D++[r]) L (.slice (some ⟨tg,0,none⟩) L.length tc) (w2.setCell ⟨wg,pv,none⟩ (.int .i64 ((K.jD D pv:Nat)+1)))):=fun z u =>
        (hR.keep u).note HK.out.ok HK.out.uni hE.lv hE.nd Vh hp aH kD hd
       have HWZ:Hid (wg<wr.heap.size/\sm+1<wr.heap.size/\sm<wr.heap.size):=HWG.out _ _ _ _ hR
       have hpn:(pv:Int)<(n:Int):=by rw [HN.out] at Om;omega
       have hwi:=K.KQ D pv
       have HWI:Hid ((lX (K.sF D))[pv]?=some (.int .i64 (K.jD D pv:Nat))):=by
        show (lX (K.sF D))[pv]?=_
        have e:(K.sF D)[pv]?=some (K.jD D pv):=by rw [KV.sF,List.getElem?_map,List.getElem?_range Om];rfl
        simp [lX,e]
       obtain ⟨lo,rP⟩ : ∃ lo,p.lo=lo:=⟨_,rfl⟩;obtain ⟨hi,wW⟩ : ∃ hi,p.hi=hi:=⟨_,rfl⟩;rw [rP,wW] at Yf ac7 HNT hne
       have atz:((lo:Int) == (hi:Int))=false:=by simp;omega
       have atA:¬ ((lo:Int)=(hi:Int)):=by omega
       have wM:((r:Int) == 0)=false:=by simp;omega
       have Ag:((r:Int) == 1)=false:=by simp;omega
       have atB:¬ ((pv:Int)<0):=by omega
       have atC:decide ((pv:Int)<0)=false:=by simp
       have atD:¬ ((n:Int)<=(pv:Int)):=by omega
       have apY:decide ((n:Int)<=(pv:Int))=false:=by simp;omega
       obtain ⟨wi,ag7⟩ : ∃ wi,K.jD D pv=wi:=⟨_,rfl⟩;rw [ag7] at HNT HWI hwi;clear hR hE hr hd hp aH kD Om Pm Pn rP wW h2 kC hne ag7;go_wp2_with fail;refine Yf.out.mono ?_;rintro e wa ⟨rfl,hua⟩;have hba:=heap_alloc_new wa (.cells #[.int .i64 pv,.int .u32 lo,.int .u32 hi] 116 (0,0));have XK:af [] wr (wa.alloc (.cells #[.int .i64 pv,.int .u32 lo,.int .u32 hi] 116 (0,0))):=hua.alloc _;have atE:wr.heap.size<=wa.heap.size:=hua.size;obtain ⟨wb,hwb⟩ : ∃ wb,wa.alloc (.cells #[.int .i64 pv,.int .u32 lo,.int .u32 hi] 116 (0,0))=wb:=⟨_,rfl⟩;rw [hwb] at hba XK;have HWB:=Lib.hid hwb;obtain ⟨⟨cn,amB⟩,w1',w2',WV,amD,ac5,u1,u2,ac8,YM⟩:=HNT.out wb XK
       have HBA:Hid (∀ z,af [sm,sm+1,wg] wb z->z.cell? ⟨wa.heap.size,0,none⟩=some (.int .i64 pv)/\z.cell? ⟨wa.heap.size,1,none⟩=some (.int .u32 lo)/\z.cell? ⟨wa.heap.size,2,none⟩=some (.int .u32 hi)):=fun z uz=>by
        have h1:=HWZ.out;have h:=(uz.block _ (ah hba) (by simp;omega)).trans hba;exact ⟨ae h rfl,ae h rfl,ae h rfl⟩
       have U1:Hid (af [sm,sm+1,wg] wb w1'):=u1.mono (by simp);have U2:Hid (af [sm,sm+1,wg] wb w2'):=(u1.mono (by simp):af [sm,sm+1,wg] wb w1').trans (u2.mono (by simp));have U3:Hid (af [sm,sm+1,wg] wb (w2'.setCell ⟨wg,pv,none⟩ (.int .i64 ((wi:Nat)+1)))):=U2.out.setCell (.inl (by simp)) _;obtain ⟨a0,a1,a2⟩:=HBA.out _ (af.refl _ _);obtain ⟨b0,_,_⟩:=HBA.out _ U1.out;obtain ⟨c0,_,_⟩:=HBA.out _ U2.out;obtain ⟨d0,d1,d2⟩:=HBA.out _ U3.out;have cw:=ae (j:=pv) ac8 HWI.out;have fw:=ax pv ac8;have xm:=Lib.hid YM;clear hua hba XK hwb u1 u2 ac8 YM;go_upto_region 20 with fail;rw [HWB.out];go_upto_region 28 with fail;generalize w2'.setCell ⟨wg,pv,none⟩ (.int .i64 ((wi:Nat)+1))=w3 at *;have bF:Hid (w3.ownsRow w.heap.size 77 1 (.slice (some ⟨tg,0,none⟩) L.length tc) L.length (aI L)):=xm.out.row
       have mg:Hid (∀ x,x∈[Value.int .u32 lo,Value.int .u32 hi]->x.oneCell'=true):=by intro x hx;simp at hx;rcases hx with rfl | rfl <;> rfl
       have ag8:w.heap.size<=(w3.alloc (.cells #[.int .u32 lo,.int .u32 hi] 77 (0,0))).heap.size:=by rw [World.size_alloc];have:=xm.out.up.size;omega
       clear WV amD ac5 amB a0 a1 a2 b0 c0 cw fw cr
       go_wp2_with (at_builtin;go_must (refine wpList_append_lies _ rfl (.tmp 132) (.tmp 137) 42 rfl w.heap.size 77 tr _ 1 4 Tryz.underlying42 Kr.out.1 Kr.out.2.1 Kr.out.2.2.1 Kr.out.2.2.2 (by rfl) (by decide) _ L.length (aI L) rfl (bF.out.alloc _) ⟨w3.heap.size,0,none⟩ 2 2 [.int .u32 lo,.int .u32 hi] rfl rfl ?c1 mg.out (by omega) (by unfold maxLen;omega) (by omega) ag8 _ rfl ?_))
       try case c1=>exact World.news_of_block (heap_alloc_new w3 (.cells #[.int .u32 lo,.int .u32 hi] 77 (0,0)))
       intro g5 cap we aK dh bI kF
       have HQ:Hid (rq lm sm (sm+1) wg K w (D++[r]) (L++[lo,hi]) (.slice (some ⟨g5,0,none⟩) (L.length+2) cap) we):=by
        have h:=xm.out;have u5:af (Value.slice (some ⟨tg,0,none⟩) L.length tc).ownBlock.toList w3 we:=af.grown ((af.refl _ w3).alloc _) dh (fun k hk=>.inl (by simp [hk]));have nbt:=h.nb tg (by simp [Value.ownBlock]);obtain ⟨S1,a1,b1⟩:=h.lev;obtain ⟨S2,a2,b2⟩:=h.sn;obtain ⟨S3,a3,b3⟩:=h.dn
        have tgn:∀ k,k≠tg->k∉(Value.slice (some ⟨tg,0,none⟩) L.length tc).ownBlock.toList:=fun k hk hm=>hk (by simpa [Value.ownBlock] using hm)
        refine ⟨⟨S1,a1,aV b1 (u5.block _ b1.lt (tgn _ nbt.1.symm))⟩,⟨S2,a2,aV b2 (u5.block _ b2.lt (tgn _ nbt.2.1.symm))⟩,⟨S3,a3,aV b3 (u5.block _ b3.lt (tgn _ nbt.2.2.1.symm))⟩,(u5.block _ (ah h.wd) (tgn _ nbt.2.2.2.symm)).trans h.wd,?_,fun k hk=>?_,h.ne,h.ge,h.up.then u5 fun k hk=>.inr (h.row.lt k (by simpa using hk)).1⟩
        ·rw [List.length_append,show ([lo,hi]:List Nat).length=2 from rfl,show aI (L++[lo,hi])=aI L++[.int .u32 lo,.int .u32 hi] by simp [aI]]
         exact aK
        ·have dB:g5=k:=by simpa [Value.ownBlock] using hk
         subst dB
         rcases bI with e | e
         ·have:tg=g5:=by simpa [Value.ownBlock] using e
          rw [<- this];exact nbt
         ·have h1:=b1.lt
          have h2:=b2.lt;have h3:=b3.lt;have h4:=ah h.wd;exact ⟨by omega,by omega,by omega,by omega⟩
       clear aK dh bI kF ag8 d0 d1 d2;go_wp2_with fail
       go_roundg (3*(K.A.used-(D.length+1))+(L.length+2-(i+1)))
       case measure=>omega
       case rel=>exact ⟨i+1,D++[r],L++[lo,hi],by simp,by simp,HQ.out,ac7.out⟩
    ·obtain rfl:i=L.length:=by omega
     have fF:¬ ((L.length:Int)<(L.length:Int)):=by omega
     obtain ⟨S2,YM,Ep⟩:=hR.sn;have HR:=Lib.hid (And.intro hR hE);have xm:=Lib.hid YM;have HSZ:Hid (sm<wr.heap.size):=Ep.lt;clear hR hE YM ag6 uP amz aW;generalize wr=wq at *
     go_wp2_with (first
      | (at_range;refine wpList_range_own _ rfl _ 186 rfl 116 77 aT Tryz.underlying186 _ sm (Maps.size S2) S2 rfl Ep ?_;intro w10 CO UQ Ya)
      | go_in)
     (try go_frame)
     go_loopw [21] (fun _ wr=>∃ (left:Lit->Bool) (cnt:Nat),wr.ranges Tryz.prog 116 (plainElem (H:=Unit) Tryz.prog 77) sm wq.heap.size (Maps.size S2) S2 left cnt/\af [] wq wr)
      (fun _ wr=>wr.rangeLeft sm wq.heap.size)
     case atStart=>exact ⟨_,_,CO,(af.refl [] wq).grown UQ (by simp)⟩
     case round =>
      obtain ⟨left,cnt,Ei,hU⟩:=hrel
      go_wp2_with (first
       | (at_next;refine wpList_next_ranges _ rfl _ rfl 116 aT (plainElem (H:=Unit) Tryz.prog 77) id (Value.int .u32) (fun key kl hk=>⟨key,rfl⟩) (fun v y hv=>by obtain ⟨c,rfl,_⟩:=plainElem_int_inv Tryz.underlying77 hv;exact ⟨c,rfl⟩) sm wq.heap.size (Maps.size S2) _ _ _ rfl Ei ?_ ?_)
       | go_in)
      ·intro Jc yu
       have hR:=HR.out.1.keep hU
       obtain ⟨S3,Ws,yK⟩:=hR.amo HR.out.2.nd fun x hx=>HK.out.ok.bZ (HR.out.2.lv x hx).2
       have HWD:Hid (∀ z,af [] wr z->z.heap[wg]?=some (.cells (lX (K.sF D)) 3 (0,0))):=fun z u=>(u.block _ (ah hR.wd) (by simp)).trans hR.wd
       have HDL:Hid (∀ z,af [] wr z->(Builtin.len_ #[114] 3 #[.map (some (sm+1))]).run Tryz.prog z=.ok (.int .i64 (D.length:Nat)) z):=fun z u=>by
        have:=World.ownsMap.len (aV Ws (u.block _ Ws.lt (by simp))) Tryz.underlying114 3
        rw [yK] at this;exact this
       have HUP:=Lib.hid hR.up;have QA:=Lib.hid (HR.out.2.live HK.out.ok);have HWI:Hid (∀ v,K.jD D v=(K.dE v).length):=HR.out.2.wid HK.out.ok;have hDl:=(HR.out.2.lens HK.out.ok).1;have uP:=HK.out.ok.used_m;generalize wr=wx at *;clear hR Ws yK Ei hU CO UQ Ya Ep;go_wp2_with fail
       go_loopg [173] n (fun g s173 wr=>∃ j:Nat,n-j=g/\j<=n/\s173=.int .i64 j/\af [] wx wr)
       case atStart=>exact ⟨0,by omega,by omega,rfl,af.refl _ _⟩
       case round =>
        obtain ⟨j,rfl,hj,rfl,hu⟩:=hrel
        by_cases OJ:j<n
        ·have hjv:j<K.vars:=by rw [HN.out];exact OJ
         have Lc:(j:Int)<(n:Int):=by omega
         have cj:wr.cell? ⟨wg,j,none⟩=some (.int .i64 (K.jD D j:Nat)):=by
          have e:(K.sF D)[j]?=some (K.jD D j):=by rw [KV.sF,List.getElem?_map,List.getElem?_range hjv];rfl
          exact ae (HWD.out wr hu) (by simp [lX,e])
         have hW:=RI b j K F wr (HK.out.upd (HUP.out.trans hu) (by simp)) hjv;rw [<- HWI.out] at hW;have HW:=Lib.hid hW;have hwl:=K.KQ D j;generalize K.jD D j=wj at *;have HU:=Lib.hid hu;clear hW hu;go_wp2_with fail;refine HW.out.mono ?_;rintro e wy ⟨rfl,huy⟩;have eF:=Lib.hid (HU.out.trans huy);clear huy;go_wp2_with fail
         go_roundg (n-(j+1))
         case measure=>omega
         case rel=>exact ⟨j+1,rfl,by omega,by simp,eF.out⟩
        ·obtain rfl:n=j:=by omega
         have Lc:¬ ((n:Int)<(n:Int)):=by omega
         have Ht:=qO b K F wr (HK.out.upd (HUP.out.trans hu) (by simp));rw [<- QA.out] at Ht;have HLI:=Lib.hid Ht;have Qd:=HDL.out wr hu;have HU:=Lib.hid hu;clear Ht hu;go_wp2_with fail;refine HLI.out.mono ?_;rintro e wy ⟨rfl,rfl⟩;go_wp2_with fail;go_ret;exact ⟨by simp,HUP.out.trans HU.out⟩
      ·intro xk c kl yd yp EW Ob iV hlk hv bI KA AA XG xe I4
       obtain ⟨r,p,hr,hp,rfl⟩:=xm.out.dom kl (has_true_of_atKey bI);obtain ⟨Vh,kC⟩:=HR.out.2.lv r hr
       have aH:p.taken=true:=by
        obtain ⟨p',jo,aH⟩:=ag.aP.1 kC
        rw [hp] at jo;cases jo;exact aH
       have rY:=HK.out.ok.wf.ok.u32 p (List.mem_of_getElem? hp);have oV:=HK.out.ok.wf.vr r p Vh hp aH;have hN:=HN.out;have hxk:=aT.inj iV (zK (v:=p.var) (lo:=p.lo) (hi:=p.hi) (vw (by omega) (by omega)) (jw rY.1) (jw rY.2.1));obtain ⟨cv,ecv,ey,_⟩:=plainElem_int_inv Tryz.underlying77 hv
       have oz:c=(r:Int):=by
        have h1:=(xm.out.at_ r p hr hp).2 (.lit (.int .u32 0));rw [bI] at h1;have h3:=(Prod.mk.inj ey).1;rw [h1] at h3
        simp at h3 ecv
        omega
       subst oz hxk;have uF:=HK.out.ok.wf.cl r p Vh hp aH;have Zu:=HK.out.ok.ord.below HK.out.ok.wf Vh hp aH;have rF:=HK.out.ok.bZ kC;have RD:=HK.out.ok.bZ uF.1;have RF:=HK.out.ok.bZ uF.2
       have KC:af [] wq EW:=hU.grown XG fun k hk=>.inr (by simp at hk;omega)
       obtain ⟨lo,rP⟩ : ∃ lo,p.lo=lo:=⟨_,rfl⟩;obtain ⟨hi,wW⟩ : ∃ hi,p.hi=hi:=⟨_,rfl⟩;obtain ⟨pv,kD⟩ : ∃ pv,p.var=pv:=⟨_,rfl⟩;rw [rP,wW,kD] at I4;rw [rP,wW] at Zu;rw [rP] at RD;rw [wW] at RF;have aY:=heap_alloc_new EW (.cells #[.int .i64 pv,.int .u32 lo,.int .u32 hi] 116 (0,0));obtain ⟨IL,DV⟩ : ∃ IL,EW.alloc (.cells #[.int .i64 pv,.int .u32 lo,.int .u32 hi] 116 (0,0))=IL:=⟨_,rfl⟩;have AB:af [] EW IL:=DV ▸ (af.refl _ _).alloc _;have CP:IL.ranges Tryz.prog 116 (plainElem (H:=Unit) Tryz.prog 77) sm wq.heap.size (Maps.size S2) S2 _ Ob:=DV ▸ KA.alloc _;rw [DV] at aY;have WB:=Lib.hid DV;have x1:=ae (j:=1) aY rfl;have x2:=ae (j:=2) aY rfl;have pW:=heap_alloc_new IL (.cells #[.int .u32 lo,.int .u32 hi] 77 (0,0));obtain ⟨LM,WX⟩ : ∃ LM,IL.alloc (.cells #[.int .u32 lo,.int .u32 hi] 77 (0,0))=LM:=⟨_,rfl⟩;have RS:af [] IL LM:=WX ▸ (af.refl _ _).alloc _;have QJ:LM.ranges Tryz.prog 116 (plainElem (H:=Unit) Tryz.prog 77) sm wq.heap.size (Maps.size S2) S2 _ Ob:=WX ▸ CP.alloc _;rw [WX] at pW;have amF:=Lib.hid WX;have s0:=ae (j:=0) pW rfl;have s1:=ae (j:=1) pW rfl;have WY:Hid (af [] wq LM):=(KC.trans AB).trans RS;have ac9:=HR.out.1.keep WY.out
       have HDN:Hid (∀ ch:Nat,ch<1048576->∃ c:Int,(Instr.lookup 114 (.map (some (sm+1))) (.int .u32 ch) true).run Tryz.prog LM=.ok (.tuple #[.int .i64 c,.bool (decide (ch∈D))]) LM/\(ch∈D->c=(K.dep ch:Int))):=fun ch hch=>ac9.done hch
       have aaC:=ac9.ag3 rF hr
       have HME:Hid (LM.rangeLeft sm wq.heap.size<wr.rangeLeft sm wq.heap.size):=by
        show _<_
        rw [QJ.left_eq,Ei.left_eq];exact AA
       have HRG:=Lib.hid QJ;obtain ⟨dr,hdr⟩ : ∃ dr,K.dep r=dr:=⟨_,rfl⟩;rw [hdr] at Zu aaC;have HDR:=Lib.hid hdr;clear iV hlk hv bI KA XG xe hr hp Vh kC aH rY oV hN ecv ey uF KC rP wW kD aY DV AB CP pW WX RS QJ ac9 hdr Ei hU CO UQ Ya Ep;go_upto_region 32 with fail;rw [WB.out];go_upto_region 33 with fail;rw [amF.out];generalize IL.heap.size=sb at *
       go_loopg [152] 2 (fun g s152 wr=>∃ j:Nat,2-j=g/\j<=2/\s152=.int .i64 j/\wr=LM)
       case atStart=>exact ⟨0,by omega,by omega,rfl,rfl⟩
       case round =>
        obtain ⟨j,rfl,hj,rfl,Iu⟩:=hrel;obtain rfl:LM=wr:=Iu.symm
        by_cases oJ:j<2
        ·obtain ⟨ch,hch⟩ : ∃ ch,(if j=0 then lo else hi)=ch:=⟨_,rfl⟩
         have aha:j=0\/j=1:=by omega
         have cc:LM.cell? ⟨sb,j,none⟩=some (.int .u32 ch):=by
          rcases aha with rfl | rfl
          ·rw [<- hch];exact s0
          ·rw [<- hch];exact s1
         have uF:ch<1048576/\dr<K.dep ch:=by
          rcases aha with rfl | rfl
          ·rw [<- hch];exact ⟨RD,Zu.1⟩
          ·rw [<- hch];exact ⟨RF,Zu.2⟩
         have OJ:(j:Int)<2:=by omega
         obtain ⟨c,gW,hcd⟩:=HDN.out ch uF.1
         by_cases hd:ch∈D
         ·obtain rfl:=hcd hd
          rw [decide_eq_true hd] at gW
          have hle:¬ ((K.dep ch:Int)<=(dr:Int)):=by omega
          have atK:decide ((K.dep ch:Int)<=(dr:Int))=false:=by simp;omega
          generalize K.dep ch=dc at *;clear hcd uF hd hch;go_wp2_with fail
          go_roundg (2-(j+1))
          case measure=>omega
          case rel=>exact ⟨j+1,rfl,by omega,by simp,rfl⟩
         ·rw [decide_eq_false hd] at gW
          clear hcd uF hd hch;go_wp2_with fail
          go_roundg (2-(j+1))
          case measure=>omega
          case rel=>exact ⟨j+1,rfl,by omega,by simp,rfl⟩
        ·obtain rfl:j=2:=by omega
         have OJ:¬ ((2:Int)<2):=by omega
         go_wp2_with fail
         go_roundw
         case rel=>exact ⟨_,Ob,HRG.out,WY.out⟩
         case measure=>exact HME.out
def IW (K:KV) (l:Nat):Prop:=∃ n:Nat,jr K l n/\(n:Int)<=(K.A.places:Int)-2
inductive Way (K0:KV):KV->List Nat->Prop
 | nil {B:KV} (h:Home K0 B):Way K0 B []
 | step {A A1 B:KV} {T:List Nat} {l:Nat} (w:Way K0 A T) (x:XP A l A1) (h:Home A1 B) (r:IW A l):Way K0 B (T++[l])
theorem Way.home {K0 B B':KV} {T:List Nat} (h:Way K0 B T) (k:Home B B'):Way K0 B' T:=by
 cases h with
 | nil h=>exact .nil (h.trans k)
 | step w x h r=>exact .step w x (h.trans k) r
theorem Way.push {K0 B B1:KV} {T:List Nat} {l:Nat} (h:Way K0 B T) (x:XP B l B1) (r:IW B l):Way K0 B1 (T++[l]):=.step h x (Home.refl x.ok' x.un') r
structure KU (K0 B:KV):Prop where
 vr:B.vars=K0.vars
 pl:B.A.places=K0.A.places
 hd:∀ r,B.hold r=K0.hold r
 den:∀ r,0<K0.hold r->∀ z,B.den r z=K0.den r z
theorem Way.facts {K0 B:KV} {T:List Nat} (h:Way K0 B T):KU K0 B:=by
 induction h with
 | nil h=>exact ⟨h.vr,h.pl,h.hd,h.den⟩
 | step w x h r ih =>
  refine ⟨(h.vr.trans x.ex.vr).trans ih.vr,(h.pl.trans x.ex.pl).trans ih.pl,fun s=>((h.hd s).trans (x.ex.hd s)).trans (ih.hd s),fun s hs z=>?_⟩;have h1:=hs;rw [<- ih.hd s] at h1;rw [h.den s (by rw [x.ex.hd];exact h1),x.held h1,ih.den s hs]
theorem Way.pop {K0 B:KV} {S:List Nat} (h:Way K0 B S):∀ {T:List Nat} {l:Nat},S=T++[l]->IW B l/\l+2<=B.vars/\∀ B',XP B l B'->Way K0 B' T:=by
 intro T l e
 cases h with
 | nil h=>simp at e
 | step w x h r =>
  obtain ⟨e1,e2⟩:=List.append_inj' e rfl
  simp at e2
  subst e1 e2;obtain ⟨n,hn,hle⟩:=r;have hl:=x.hl;have hv:=x.ex.vr;refine ⟨⟨n,h.room (by rw [hv];exact hl) (x.room hn),by rw [h.pl,x.ex.pl];exact hle⟩,by rw [h.vr,hv];exact hl,fun B' x'=>w.home ⟨x.ok,x.un,x'.ok',x'.un',?_,?_,?_,fun s=>?_,fun s hs z=>?_⟩⟩
  ·exact (x'.ex.vr.trans h.vr).trans hv
  ·exact (x'.ex.pl.trans h.pl).trans x.ex.pl
  ·have ol:=x.ok.ord.pm.ol
   rw [x'.ex.od,h.od,x.ex.od,oN (by omega)]
  ·exact ((x'.ex.hd s).trans (h.hd s)).trans (x.ex.hd s)
  ·have h1:=hs
   rw [<- x.ex.hd s] at h1;rw [x'.held (by rw [h.hd];exact h1),h.den s h1,x.held hs]
theorem Way.end_ {K0 B:KV} {T:List Nat} (h:Way K0 B T) (e:T=[]):Home K0 B:=by
 cases h with
 | nil h=>exact h
 | step w x h r=>simp at e
theorem KU.roots {K0 B:KV} (h:KU K0 B):B.roots.length=K0.roots.length :=
 Nat.le_antisymm (List.Nodup.length_le_of_subset B.uy fun r hr=>KV.jm.2 (by rw [<- h.hd];exact KV.jm.1 hr))
  (List.Nodup.length_le_of_subset K0.uy fun r hr=>KV.jm.2 (by rw [h.hd];exact KV.jm.1 hr))
theorem KU.tk {K0 B:KV} (h:KU K0 B) (hb:B.Ok) {r:Nat} (hr:r<2\/0<K0.hold r):B.A.tk r=true:=by
 rcases hr with hr | hr
 ·exact hb.oq hr
 ·exact hb.kz (by rw [h.hd];exact hr)
theorem KU.says {K0 B:KV} (h:KU K0 B) {l:List Nat} (hr:∀ r,r∈l->r<2\/0<K0.hold r) (Xs:List Int):B.says l Xs=K0.says l Xs:=by
 have e:∀ r,r∈l->B.den r=K0.den r:=fun r hm=>by
  funext z
  rcases hr r hm with h1 | h1
  ·rw [B.aN h1,K0.aN h1]
  ·exact h.den r h1 z
 unfold KV.says
 induction l with
 | nil=>rfl
 | cons a l ih =>
  rw [List.flatMap_cons,List.flatMap_cons,ih (fun r hm=>hr r (List.mem_cons_of_mem _ hm)) (fun r hm=>e r (List.mem_cons_of_mem _ hm)),e a (by simp)]
theorem WZ (b l:Nat) (T:List Nat) (K:KV) (F:List Nat) (w:World) (h:aZ w b K F) (ht:K.trail=T++[l]) (hl:K.trail.length<=1000000) (hr:IW K l) (Ff:l+2<=K.vars) :
  Calls Tryz.prog 68 #[.pointer (some ⟨b,0,none⟩)] w fun e w'=>∃ (K':KV) (F':List Nat),e=.returned (.tuple #[.int .i64 l,.int .i64 0])/\aZ w' b K' F'/\l9 F w F' w'/\XP K l K'/\K'.trail=T:=by
 have dJ:=h.ok;have uZ:=h.uni
 have Xa:K.trail.getLastD 0=l:=by rw [ht];simp
 obtain ⟨TT,q,hk,rfl⟩:=h;refine (Gs b K TT q w hk hl fun _ C N CA F=>?_).mono ?_
 ·rw [Xa] at CA F
  obtain ⟨n,hn,hle⟩:=hr;have:=hn C N CA F;omega
 ·rintro e w' hE
  obtain ⟨K',T',q',dB,hu,hs,hc⟩:=hE.ex;have yB:aZ w' b K' (q'.all b):=⟨T',q',dB,rfl⟩
  rcases hc with ⟨h0,_⟩ | ⟨_,rfl,K1,X,rfl⟩
  ·rw [ht] at h0;simp at h0
  ·rw [Xa] at X
   refine ⟨_,_,by rw [Xa],yB,⟨hu,hs⟩,⟨dJ,uZ,yB.ok,yB.uni,Ff,X.bare yB.ok rfl rfl rfl rfl rfl⟩,?_⟩
   show K1.trail.dropLast=T
   rw [X.tr,ht];simp
theorem KW (b:Nat) (K0 B:KV) (F:List Nat) (w:World) (h:aZ w b B F) (hw:Way K0 B B.trail) (hl:B.trail.length<=1000000) :
  Calls Tryz.prog 23 #[.pointer (some ⟨b,0,none⟩),.int .i64 0] w fun e w'=>∃ (B':KV) (F':List Nat),e=.returned (.tuple #[.int .i64 (B.trail.length:Nat),.int .i64 0])/\aZ w' b B' F'/\l9 F w F' w'/\Home K0 B':=by
 refine (Gv b 0 (fun K=>Way K0 K K.trail) B F w h hw (Nat.zero_le _) hl fun z K F2 hz hp aW hlen=>?_).mono ?_
 ·have hne:K.trail≠[]:=fun e=>by rw [e] at aW;simp at aW
  have hsp:=zU hne;obtain ⟨r1,r2,r3⟩:=hp.pop hsp;refine (WZ b _ _ K F2 z hz hsp hlen r1 r2).mono ?_;rintro e w' ⟨K',F',rfl,h1,h2,h3,h4⟩;refine ⟨_,K',F',rfl,h1,h2,?_,?_⟩
  ·show Way K0 K' K'.trail
   rw [h4];exact r3 K' h3
  ·rw [h4,List.length_dropLast];omega
 ·rintro e w' hE
  obtain ⟨K',F',rfl,h1,h2,h3,h4⟩:=hE.ex;exact ⟨K',F',by simp,h1,h2,h3.end_ (List.length_eq_zero_iff.1 h4)⟩
theorem ExL.way {K0 K K':KV} {l:Nat} (hk:K.Ok) (hu:K.Uni) (dB:K'.Ok) (jy:K'.Uni) (hl:l+2<=K.vars) (hw:Way K0 K K.trail) (h:∃ K1,xK K l K1/\(KH K l->K1=K.qc l)/\K'=K1.dX l) (hr:∀ n,jr K l n->(n:Int)<=(K.A.places:Int)-2) :
  XP K l K'/\K'.trail=K.trail++[l]/\Way K0 K' K'.trail:=by
 obtain ⟨hx,_⟩:=ExL.yes hk hu dB jy hl h;obtain ⟨K1,X,_,rfl⟩:=h
 have ht:(K1.dX l).trail=K.trail++[l]:=by show K1.trail++[l]=_;rw [X.tr]
 obtain ⟨n,hn⟩:=jr.exists hk hu hl;exact ⟨hx,ht,by rw [ht];exact hw.push hx ⟨n,hn,hr n hn⟩⟩
theorem jr.ge {K:KV} {l n:Nat} (hk:K.Ok) (hu:K.Uni) (hl:l+2<=K.vars) (h:jr K l n):(K.A.used:Int)-2<=(n:Int):=by
 obtain ⟨C,CA⟩:=dU.exists (⟨hk,hu,hl,rfl,rfl⟩ : Nb K l (K.order.getD l 0) (K.order.getD (l+1) 0));obtain ⟨N,F⟩:=lZ.exists K (K.order.getD l 0) (C.flatMap bY.qs);have:=h C N CA F;omega
end Go.Proofs.YtfkopmhpppeheaaGreat
namespace Go.Proofs.YtfkopmhpppeheaaGreat
open Go.ChangeShapes Go.WideShapes Go.ChangeAt Go.RowKit
structure EX (w:World) (k:IntKind) (a:Option Addr) (n c:Nat) (zs:List Int):Prop where
 row:zV w k a n zs
 nc:n<=c
 cm:c<=maxLen
 wf:∀ z,z∈zs->(Lit.int k z).wf=true
theorem EX.PR {H:Type} {W:World} {k:IntKind} {cs:List Value} {x:DataW H × List MemPlace}
  (h:(cs=[.slice none 0 0]/\x=(.nil,[])) \/
  ∃ (a:Addr) (len cap:Nat) (zs:List Int),cs=[.slice (some a) len cap]/\0<=a.block/\len<=cap/\cap<=maxLen/\zs.length=(if (fun _:Nat=>true) a.block then cap else len) /\
   x=(.slice (lits k (zs.take len)) (lits k (zs.drop len)),MemPlace.row a zs.length) /\
   (∀ i,i<zs.length->W.cell? (a.add i)=some (.int k (zs.getD i 0)))/\(∀ n∈zs,(Lit.int k n).wf=true)) :
  ∃ (a:Option Addr) (n c:Nat) (Zs:List Int),cs=[.slice a n c]/\EX W k a n c Zs:=by
 rcases h with ⟨rfl,_⟩ | ⟨a,len,cap,zs,rfl,_,hl,hm,hz,_,hc,hw⟩
 ·exact ⟨none,0,0,[],rfl,⟨rfl,Nat.zero_le _,fun i hi=>by omega⟩,Nat.le_refl _,Nat.zero_le _,fun z hz=>by cases hz⟩
 ·have hz':zs.length=cap:=by simpa using hz
  refine ⟨some a,len,cap,zs.take len,rfl,⟨by rw [List.length_take];omega,by omega,fun i hi=>⟨a,rfl,?_⟩⟩,hl,hm,fun z hz=>hw z (List.mem_of_mem_take hz)⟩;rw [hc i (by omega),List.getD_eq_getElem?_getD,List.getD_eq_getElem?_getD,List.getElem?_take_of_lt hi]
theorem adb:Tryz.prog.cellsOf 5=1:=by kernel_rfl
end Go.Proofs.YtfkopmhpppeheaaGreat
