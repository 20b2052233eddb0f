import Derived.Test.YtfkopmhpppeheaaGreatPN34
import Derived.Test.YtfkopmhpppeheaaGreatPN29
import Derived.Test.YtfkopmhpppeheaaGreatPN30
import Derived.Test.YtfkopmhpppeheaaGreatPN1
import Derived.Test.YtfkopmhpppeheaaGreatPN20
import Derived.Test.YtfkopmhpppeheaaGreatPN28
import Derived.Test.YtfkopmhpppeheaaGreatPN33
import Derived.Maps.OwnSet
import Derived.Laws.ResultCell
import Derived.Laws.Rows
set_option maxRecDepth 100000
set_option maxHeartbeats 6400000
namespace Go.Proofs.YtfkopmhpppeheaaGreat
open Go.RowKit Go.Maps Go.ChangeMaps Go.WideShapes
def jr (K:KV) (l n:Nat):Prop:=∀ (C:List bY) (N:List (Nat × Nat)),dU K l (K.order.getD l 0) (K.order.getD (l+1) 0) C->lZ K (K.order.getD l 0) (C.flatMap bY.qs) N->n+2=K.A.used+N.length
def KH (K:KV) (l:Nat):Prop:=∀ r,¬ K.gZ (K.order.getD l 0) (K.order.getD (l+1) 0) r
theorem PO (b l:Nat) (K:KV) (F:List Nat) (w:World) (h:aZ w b K F) (hl:l+2<=K.vars) :
  Calls Tryz.prog 22 #[.pointer (some ⟨b,0,none⟩),.int .i64 l] w fun e w'=>∃ n:Nat,e=.returned (.tuple #[.int .i64 n,.int .i64 ((K.A.places:Int)-2),.int .i64 0])/\af [] w w'/\jr K l n:=by
 obtain ⟨T,q,hk,rfl⟩:=h;refine (Ad b l K T q w hk hl).mono ?_;rintro e w' hE;obtain ⟨n,rfl,jy,hn⟩:=hE.ex;exact ⟨n,rfl,jy,hn⟩
def ExL (l:Nat) (K:KV) (code:Int) (K':KV):Prop :=
 (code=9/\K'=K/\∀ n,jr K l n->(K.A.places:Int)-2<n) \/
 (code=0/\(∃ K1,xK K l K1/\(KH K l->K1=K.qc l)/\K'=K1.dX l)/\∀ n,jr K l n->(n:Int)<=(K.A.places:Int)-2)
theorem WJ (b l:Nat) (K:KV) (F:List Nat) (w:World) (h:aZ w b K F) (hl:l+2<=K.vars) (ht:K.trail.length<=1000000) :
  Calls Tryz.prog 29 #[.pointer (some ⟨b,0,none⟩),.int .i64 l] w fun e w'=>∃ code:Int,e=.returned (.int .i64 code)/\ExR b F (ExL l K) w code w':=by
 have jE:=h.ok.wf.ok.us;obtain ⟨T,q,hk,rfl⟩:=h;refine (vF b l K T q w hk ht).mono ?_;rintro e w' hE;obtain ⟨code,K',T',q',rfl,dB,jy,uO,hc⟩:=hE.ex
 rcases hc with ⟨_,h1,_⟩ | ⟨n,hn,h2,C,N,CA,FN,hc⟩
 ·omega
 ·obtain rfl:n=l:=by omega
  refine ⟨code,rfl,K',_,⟨T',q',dB,rfl⟩,jy,uO,?_⟩
  rcases hc with ⟨rfl,h3,rfl⟩ | ⟨rfl,h3,K1,X,Fe,rfl⟩
  ·exact .inl ⟨rfl,rfl,fun m hm=>by have:=hm C N CA FN;omega⟩
  ·refine .inr ⟨rfl,⟨K1,X,fun hf=>Fe ?_,rfl⟩,fun m hm=>by have:=hm C N CA FN;omega⟩
   cases C with
   | nil=>rfl
   | cons c C=>exact absurd (CA.ok c (by simp)).cr (hf _)
theorem Zp (b l:Nat) (K:KV) (F:List Nat) (w:World) (h:aZ w b K F) (hl:l+2<=K.vars) (ht:K.trail.length<=1000000) :
  Calls Tryz.prog 20 #[.pointer (some ⟨b,0,none⟩),.int .i64 l] w fun e w'=>We b l K F (ExL l K) w e w' :=
 Ku b l K F (ExL l K) w h fun z hz=>WJ b l K F z hz hl ht
structure lK (w:World) (a:Option Addr) (n:Nat):Prop where
 mx:n<=maxLen
 at_:∀ i,i<n->∃ (x:Addr) (op:Nat) (A B:Int),a=some x/\op<=255/\w.cell? (x.add (i*3))=some (.int .u8 op)/\w.cell? ((x.add (i*3)).add 1)=some (.int .i64 A)/\w.cell? ((x.add (i*3)).add 2)=some (.int .i64 B)
theorem lK.keep0 {w w':World} {a:Option Addr} {n:Nat} (h:lK w a n) (u:af [] w w'):lK w' a n :=
 ⟨h.mx,fun i hi=>by obtain ⟨x,op,A,B,e,h0,h1,h2,h3⟩:=h.at_ i hi;exact ⟨x,op,A,B,e,h0,u.cell0 h1,u.cell0 h2,u.cell0 h3⟩⟩
theorem DZ {l:List Nat} {j:Nat} (h:j<l.length):l.getD j 0∈l:=by
 rw [List.getD_eq_getElem?_getD,List.getElem?_eq_getElem h];exact List.getElem_mem h
structure IQ (b n:Nat) (refs F:List Nat) (w5:World) (s8 s12:Value) (wx:World):Prop where
 ex:∃ (r:Nat) (code:Int) (K':KV) (F':List Nat),s8=.int .i64 code/\s12=.int .u32 r/\aZ wx b K' F'/\l9 F w5 F' wx/\((code=0/\Og n K' (refs++[r]))\/(code=9/\Og n K' refs))
structure WL (n:Nat) (w:World) (e:Ending) (w':World):Prop where
 ex:∃ (b:Nat) (K:KV) (F refs:List Nat) (v:Value),e=.returned (.tuple #[.pointer (some ⟨b,0,none⟩),v,.bool true])/\aZ w' b K F/\Og n K refs/\w'.ownsRow w.heap.size 77 1 v refs.length (aI refs)/\(∀ k,v.ownBlock=some k->k∉F)/\(∀ k,k∈F->w.heap.size<=k)/\af [] w w'
theorem Oh (n:Nat) (ga:Option Addr) (gn gc:Nat) (w:World) (AO:1≤n) (hn:n≤64) (hG:lK w ga gn) (hgn:gn≤40) :
    Calls Tryz.prog 41 #[.int .i64 n,.slice ga gn gc] w fun e w'=>WL n w e w':=by
  obtain ⟨ti,eU,fE,dR,fU⟩:=info_parts Tryz.infoRefS;have HI:=Lib.hid (And.intro eU (And.intro fE (And.intro dR fU)));have HG:=Lib.hid hG;clear hG eU fE dR fU
  go_enter Tryz.func41,Tryz.ntmps41
  go_wp2_with fail;refine (Gu n 8192 w AO hn (by omega) (by omega)).mono ?_;rintro e w1 ⟨b,T,q,rfl,O3,iq,xe⟩;have FX:=Lib.hid (And.intro O3 (And.intro iq xe));have aC:=heap_alloc_new w1 (.cells #[.int .u32 (1:Nat)] 77 (0,0));have NM:af [] w1 (w1.alloc (.cells #[.int .u32 (1:Nat)] 77 (0,0))):=(af.refl _ _).alloc _
  have NS:Hid (aZ (w1.alloc (.cells #[.int .u32 (1:Nat)] 77 (0,0))) b (KV.new n 8192) (q.all b)∧l9 [] w (q.all b) (w1.alloc (.cells #[.int .u32 (1:Nat)] 77 (0,0))) ∧
      (w1.alloc (.cells #[.int .u32 (1:Nat)] 77 (0,0))).ownsRow w.heap.size 77 1 (.slice (some ⟨w1.heap.size,0,none⟩) 1 1) 1 (aI [1])∧w1.heap.size∉q.all b) :=
    ⟨⟨T,q,O3.upd NM (by simp),rfl⟩,⟨iq.trans NM,xe⟩,⟨rfl,.inr ⟨_,1,_,rfl,iq.size,aC,Nat.le_refl _,by unfold maxLen; omega,rfl,rfl⟩⟩,fun hm=>by have:=O3.mem.lt _ hm; omega⟩
  clear O3 iq xe aC NM;go_wp2_with fail
  go_loopg [9,27] gn (fun g s9 s27 wr=>∃ (i:Nat) (K:KV) (F refs:List Nat),gn - i=g∧i≤gn∧s27=.int .i64 i∧aZ wr b K F∧l9 [] w F wr∧Og n K refs∧refs.length≤i + 1∧wr.ownsRow w.heap.size 77 1 s9 refs.length (aI refs)∧∀ k,s9.ownBlock=some k→k∉F)
  case atStart=>exact ⟨0,_,_,[1],by omega,by omega,rfl,NS.out.1,NS.out.2.1,Og.new AO hn,by simp,NS.out.2.2.1,fun k hk=>(show w1.heap.size=k by simpa [Value.ownBlock] using hk) ▸ NS.out.2.2.2⟩
  case round =>
    obtain ⟨i,K,F,refs,rfl,hi,rfl,hK,hS,hB,rF,aC,Eg⟩:=hrel;obtain ⟨oa,oc,sH,_⟩:=aj aC;subst sH;obtain ⟨gr,rfl⟩:=bC aC hB.ne
    by_cases aW:i < gn
    · obtain ⟨x,op,A,B,hx,ho,c0,c1,c2⟩:=(HG.out.keep0 hS.up).at_ i aW
      subst hx;rw [Addr.add_succ' _ 0] at c1;rw [Addr.add_succ' _ 1] at c2
      simp only [Nat.zero_add,Nat.reduceAdd] at c1 c2
      have fF:(i:Int) < (gn:Int):=by omega
      have aY:=heap_alloc_new wr (.cells #[.int .u8 op,.int .i64 A,.int .i64 B] 184 (0,0));have nK:af [] wr (wr.alloc (.cells #[.int .u8 op,.int .i64 A,.int .i64 B] 184 (0,0))):=(af.refl _ _).alloc _;obtain ⟨w5,hw5⟩ : ∃ w5,wr.alloc (.cells #[.int .u8 op,.int .i64 A,.int .i64 B] 184 (0,0))=w5:=⟨_,rfl⟩;rw [hw5] at aY nK;have HW5:=Lib.hid hw5;have b0:=ae (j:=0) aY rfl;have b1:=ae (j:=1) aY rfl;have b2:=ae (j:=2) aY rfl;have HX:=Lib.hid (And.intro (hK.upd nK (by simp)) (And.intro (hS.trans (l9.of0 nK)) (And.intro hB (And.intro (ai aC fun k hk=>nK.block k (aC.lt k hk).2 (by simp)) Eg))));have pO:=Lib.hid (And.intro aY (fun k (hk:(Value.slice (some ⟨gr,0,none⟩) refs.length oc).ownBlock=some k)=>Nat.lt_of_lt_of_le (aC.lt k hk).2 nK.size));have HNF:Hid (wr.heap.size∉F∧True):=⟨fun hm=>by have:=hK.lt _ hm; omega,trivial⟩
      have agX:refs.length≤40:=by omega
      have LQ:=hB.ne;clear hK hS hB aC Eg aY nK hw5;go_upto_region 9 with fail;rw [HW5.out];obtain ⟨bb,zJ⟩ : ∃ bb,decide (15 < op)=bb:=⟨_,rfl⟩
      have XJ:decide ((15:Int) < (op:Int))=bb:=by rw [← zJ]; simp; omega
      have Lu:=Lib.hid zJ;go_upto_if 33 with fail
      (try rw [zJ])
      (try rw [XJ])
      clear zJ XJ
      go_cut [8,12] from 34 to 65 (fun s8 s12 wx=>IQ b n refs F w5 s8 s12 wx)
      case first =>
        cases bb with
        | true =>
          go_wp2_with fail;refine (Oe A n w5 (by omega) (by omega)).mono ?_;rintro e w6 ⟨k,hk,rfl,NW⟩;have HW6:=Lib.hid NW;have HKN:=Lib.hid hk;clear NW hk;go_wp2_with fail;rw [HW6.out];refine (WI b n k K F refs w5 HX.out.1 HX.out.2.2.1 agX HKN.out).mono ?_;rintro e w7 hE;obtain ⟨r,code,K',F',rfl,hK',uO,Sr⟩:=hE.ex;have HQ:Hid (IQ b n refs F w5 (.int .i64 code) (.int .u32 r) w7):=⟨r,code,K',F',rfl,rfl,hK',uO,Sr⟩;clear hE hK' uO Sr;go_wp2_with fail;go_meet;exact HQ.out
        | false =>
          have hop:op≤15:=by have:=Lu.out; simp at this; omega
          obtain ⟨kA,hkA,hmA⟩:=zk A refs.length LQ (by omega);obtain ⟨kB,hkB,hmB⟩:=zk B refs.length LQ (by omega);have HMA:=Lib.hid hmA;have HMB:=Lib.hid hmB;obtain ⟨fA,hfA⟩ : ∃ fA,refs.getD kA 0=fA:=⟨_,rfl⟩;obtain ⟨fB,hfB⟩ : ∃ fB,refs.getD kB 0=fB:=⟨_,rfl⟩;have HFA:Hid (fA∈refs∧True):=⟨hfA ▸ DZ hkA,trivial⟩;have Vp:Hid (fB∈refs∧True):=⟨hfB ▸ DZ hkB,trivial⟩
          have as6:(kA:Int) < (refs.length:Int):=by omega
          have as7:(kB:Int) < (refs.length:Int):=by omega
          have nN:Hid (∀ z,af F w5 z→(z.cell? ⟨wr.heap.size,0,none⟩=some (.int .u8 op)∧z.cell? ⟨wr.heap.size,1,none⟩=some (.int .i64 A)∧z.cell? ⟨wr.heap.size,2,none⟩=some (.int .i64 B))∧z.cell? ⟨gr,kA,none⟩=some (.int .u32 fA)∧z.cell? ⟨gr,kB,none⟩=some (.int .u32 fB)):=fun z u =>
            ⟨⟨(u.cell (ah pO.out.1) (HNF.out.1)).trans b0,(u.cell (ah pO.out.1) (HNF.out.1)).trans b1,(u.cell (ah pO.out.1) (HNF.out.1)).trans b2⟩,
             hfA ▸ (u.cell (pO.out.2 gr rfl) (HX.out.2.2.2.2 gr rfl)).trans (au HX.out.2.2.2.1 (jZ (by rw [List.getD_eq_getElem?_getD,List.getElem?_eq_getElem hkA]; rfl))),
             hfB ▸ (u.cell (pO.out.2 gr rfl) (HX.out.2.2.2.2 gr rfl)).trans (au HX.out.2.2.2.1 (jZ (by rw [List.getD_eq_getElem?_getD,List.getElem?_eq_getElem hkB]; rfl)))⟩
          have HGB:Hid (∀ z,af [] w5 z→Calls Tryz.prog 92 #[.pointer (some ⟨b,0,none⟩),.int .u8 op,.int .u32 fA,.int .u32 fB] z fun e w'=>∃ (r:Nat) (code:Int),e=.returned (.tuple #[.int .u32 r,.int .i64 code])∧IQ b n refs F w5 (.int .i64 code) (.int .u32 r) w'∧af F w5 w'):=fun z u=>by
            refine (KG b n op fA fB K F refs z (HX.out.1.upd u (by simp)) HX.out.2.2.1 agX hop HFA.out.1 Vp.out.1).mono ?_;rintro e w7 hE;obtain ⟨r,code,K',F',rfl,hK',uO,Sr⟩:=hE.ex;exact ⟨r,code,rfl,⟨r,code,K',F',rfl,rfl,hK',(l9.of0 u).trans uO,Sr⟩,((l9.of0 u:l9 F w5 F z).trans uO).up⟩
          clear b0 b1 b2 hop hfA hfB hkA hkB hmA hmB;go_upto_region 11 with fail;refine fZ (fun z=>(z.cell? ⟨wr.heap.size,0,none⟩=some (.int .u8 op)∧z.cell? ⟨wr.heap.size,1,none⟩=some (.int .i64 A)∧z.cell? ⟨wr.heap.size,2,none⟩=some (.int .i64 B))∧z.cell? ⟨gr,kA,none⟩=some (.int .u32 fA)∧z.cell? ⟨gr,kB,none⟩=some (.int .u32 fB)) (fun _=>True) [] (by kernel_rfl) ?_;have hS:=nN.out _ (af.refl _ _).drew;have hE:True:=trivial;refine dN 0 rfl hS (fun _=>hE) ?_;refine dN 1 rfl hS (fun _=>hE) ?_;refine dN 2 rfl hS (fun _=>hE) ?_;refine dN 3 rfl hS (fun _=>hE) ?_;refine dN 4 rfl hS (fun _=>hE) ?_;refine dN 5 rfl hS (fun _=>hE) ?_;refine dN 6 rfl hS (fun _=>hE) ?_;refine dN 7 rfl hS (fun _=>hE) ?_;refine dN 11 rfl hS (fun _=>hE) ?_;refine dN 12 rfl hS (fun _=>hE) ?_;refine dN 13 rfl hS (fun _=>hE) ?_;refine dN 14 rfl hS (fun _=>hE) ?_;refine dN 15 rfl hS (fun _=>hE) ?_;refine aJ (rs:=[8]) (by kernel_rfl) (by simp) ?_;refine ay.cons rfl (fun Kx hK=>?_) ?_
          rotate_left
          exact ay.nil
          go_simp
          refine (HMA.out _).mono ?_;rintro e w6 ⟨rfl,rfl⟩;go_wp2_with fail;refine hK.out _ _ ⟨nN.out _ (af.refl _ _).drew,fun _=>trivial⟩ (fun hHeld=>?_);clear hK Kx;obtain ⟨hS,hE⟩:=hHeld;have hE:=hE (by kernel_rfl)
          (try simp only [Act.put,List.setIfInBounds_toArray,List.set_cons_zero,List.set_cons_succ])
          refine dN 9 rfl hS (fun _=>hE) ?_;refine dN 10 rfl hS (fun _=>hE) ?_;refine aJ (rs:=[16]) (by kernel_rfl) (by simp) ?_;refine ay.cons rfl (fun Kx hK=>?_) ?_
          rotate_left
          exact ay.nil
          go_simp
          refine (HMB.out _).mono ?_;rintro e w6 ⟨rfl,rfl⟩;go_wp2_with fail;refine hK.out _ _ ⟨nN.out _ (af.refl _ _).drew,fun _=>trivial⟩ (fun hHeld=>?_);clear hK Kx;obtain ⟨hS,hE⟩:=hHeld;have hE:=hE (by kernel_rfl)
          (try simp only [Act.put,List.setIfInBounds_toArray,List.set_cons_zero,List.set_cons_succ])
          refine dN 17 rfl hS (fun _=>hE) ?_;refine dN 18 rfl hS (fun _=>hE) ?_;refine aJ (rs:=[19]) (by kernel_rfl) (by simp) ?_;refine ay.cons rfl (fun Kx hK=>?_) ?_
          rotate_left
          exact ay.nil
          go_simp
          refine (HGB.out _ (af.refl _ _).drew).mono ?_;rintro e w7 ⟨r,code,rfl,hq,hu⟩;have HQ:=Lib.hid hq;have HUQ:=Lib.hid hu;clear hq hu;go_wp2_with fail;refine hK.out _ _ ⟨nN.out _ HUQ.out,fun _=>trivial⟩ (fun hHeld=>?_);clear hK Kx;obtain ⟨hS,hE⟩:=hHeld;have hE:=hE (by kernel_rfl)
          (try simp only [Act.put,List.setIfInBounds_toArray,List.set_cons_zero,List.set_cons_succ])
          refine dN 20 rfl hS (fun _=>hE) ?_;refine dN 21 rfl hS (fun _=>hE) ?_;refine dN 22 rfl hS (fun _=>hE) ?_;refine dN 23 rfl hS (fun _=>hE) ?_;refine dN 24 rfl hS (fun _=>hE) ?_;refine fD (by kernel_rfl) ?_ _;clear hS hE
          (try go_simp)
          go_wp2_with fail;go_meet;exact HQ.out
      case rest =>
        obtain ⟨r,code,K',F',rfl,rfl,hK',uO,Sr⟩:=hcut.ex
        have bF:Hid (wc.ownsRow w.heap.size 77 1 (.slice (some ⟨gr,0,none⟩) refs.length oc) refs.length (aI refs)):=ai HX.out.2.2.2.1 fun k hk=>uO.up.block k (HX.out.2.2.2.1.lt k hk).2 (HX.out.2.2.2.2 k hk)
        have FP:Hid (∀ k,(Value.slice (some ⟨gr,0,none⟩) refs.length oc).ownBlock=some k→k∉F'):=fun k hk hm=>by
          rcases uO.sub k hm with h | h
          · exact HX.out.2.2.2.2 k hk h
          · have:=(HX.out.2.2.2.1.lt k hk).2; omega
        have HS':Hid (l9 [] w F' wc):=HX.out.2.1.trans uO;have HK':=Lib.hid hK';clear hcut hK' uO b0 b1 b2
        rcases Sr with ⟨rfl,hB'⟩ | ⟨rfl,hB'⟩
        · have HB':=Lib.hid hB'
          have mg:Hid (∀ u,u∈[Value.int .u32 r]→u.oneCell'=true):=by intro u hu; simp at hu; subst hu; rfl
          have pW:w.heap.size≤(wc.alloc (.cells #[.int .u32 r] 77 (0,0))).heap.size:=by rw [World.size_alloc]; have:=HS'.out.up.size; omega
          clear hB'
          go_wp2_with (at_builtin; go_must (refine wpList_append_lies _ rfl (.tmp 74) (.tmp 76) 42 rfl w.heap.size 77 ti _ 1 4 Tryz.underlying42 HI.out.1 HI.out.2.1 HI.out.2.2.1 HI.out.2.2.2 (by rfl) (by decide) _ refs.length (aI refs) rfl (bF.out.alloc _) ⟨wc.heap.size,0,none⟩ 1 1 [.int .u32 r] rfl rfl ?c1 mg.out (by omega) (by unfold maxLen; omega) (by omega) pW _ rfl ?_))
          case c1=>exact World.news_of_block (heap_alloc_new wc (.cells #[.int .u32 r] 77 (0,0)))
          intro g5 cap w6 aK dh bI kF
          have HZ:Hid (aZ w6 b K' F'∧l9 [] w F' w6∧w6.ownsRow w.heap.size 77 1 (.slice (some ⟨g5,0,none⟩) (refs.length + 1) cap) (refs ++ [r]).length (aI (refs ++ [r]))∧∀ k,(Value.slice (some ⟨g5,0,none⟩) (refs.length + 1) cap).ownBlock=some k→k∉F'):=by
            have u5:af (Value.slice (some ⟨gr,0,none⟩) refs.length oc).ownBlock.toList wc w6:=af.grown ((af.refl _ wc).alloc _) dh (fun k hk=>.inl (by simp [hk]));refine ⟨HK'.out.upd u5 (fun k hk hm=>FP.out k (by simpa using hm) hk),⟨HS'.out.up.then u5 fun k hk=>.inr (HX.out.2.2.2.1.lt k (by simpa using hk)).1,HS'.out.sub⟩,?_,fun k hk hm=>?_⟩
            · rw [List.length_append,List.length_singleton,show aI (refs ++ [r])=aI refs ++ [.int .u32 r] by simp [aI]]
              exact aK
            · have dB:g5=k:=by simpa [Value.ownBlock] using hk
              subst dB
              rcases bI with h | h
              · exact FP.out _ h hm
              · have:=HK'.out.lt _ hm; omega
          clear aK dh bI kF pW;go_wp2_with fail
          go_roundg (gn - (i + 1))
          case measure=>omega
          case rel=>exact ⟨i + 1,K',F',refs ++ [r],rfl,by omega,by simp,HZ.out.1,HZ.out.2.1,HB'.out,by simp; omega,by simpa using HZ.out.2.2.1,HZ.out.2.2.2⟩
        · have HB':=Lib.hid hB'
          clear hB';go_wp2_with fail
          go_roundg (gn - (i + 1))
          case measure=>omega
          case rel=>exact ⟨i + 1,K',F',refs,rfl,by omega,by simp,HK'.out,HS'.out,HB'.out,by omega,bF.out,FP.out⟩
    · obtain rfl:i=gn:=by omega
      have fF:¬ ((i:Int) < (i:Int)):=by omega
      have HE:Hid (WL n w (.returned (.tuple #[.pointer (some ⟨b,0,none⟩),.slice (some ⟨gr,0,none⟩) refs.length oc,.bool true])) wr) :=
        ⟨b,K,F,refs,_,rfl,hK,hB,aC,Eg,fun k hk=>(hS.sub k hk).elim (fun h=>nomatch h) id,hS.up⟩
      clear hK hS hB aC Eg;go_wp2_with fail;refine bodyPost_ret (v:=.tuple #[.pointer (some ⟨b,0,none⟩),.slice (some ⟨gr,0,none⟩) refs.length oc,.bool true]) (by simp [results,Tryz.results41,go_sem]) rfl HE.out
theorem KI (tb:Nat) (F:List Nat) (v:Nat) (T:List DM) (D:DM) (w:World) (h:ed w tb T F) (hv:T[v]?=some D) :
  Calls Tryz.prog 111 #[.pointer (some ⟨tb,0,none⟩),.int .i64 v] w fun e w'=>e=.returned (.tuple #[.int .i64 (Maps.size D),.int .i64 0])/\af [] w w':=by
 have gK:=(List.getElem?_eq_some_iff.1 hv).1;have I9:=h.bd;obtain ⟨g,cap,m,hf1,hf2,Jd,Jc,Eo,ho⟩:=h.cells hv;have hl:=h.lt;have HT:=Lib.hid h;have HO:=Lib.hid ho
 have hi:(v:Int)<(T.length:Int):=by omega
 clear h ho hl hv
 go_enter Tryz.func111,Tryz.ntmps111
 go_wp2_with fail;refine (qf tb F v T _ HT.out (by omega) (by omega)).mono ?_;rintro e w1 ⟨rfl,rfl⟩;go_wp2_with fail;rw [World.ownsMap.len HO.out Tryz.underlying186 3];go_wp2_with fail;go_ret2;exact ⟨rfl,af.refl _ _⟩
theorem WM (b v:Nat) (K:KV) (T:List DM) (q:aA) (D:DM) (w:World) (h:bV w b K T q) (hv:v<K.vars) (hT:T[v]?=some D) :
  Calls Tryz.prog 49 #[.pointer (some ⟨b,0,none⟩),.int .i64 v] w fun e w'=>e=.returned (.tuple #[.int .i64 (Maps.size D),.int .i64 0])/\af [] w w':=by
 have c1:w.cell? ⟨b,1,none⟩=some (.pointer (some ⟨q.t,0,none⟩)):=ae h.mem.blk rfl;have HV:=Lib.hid (iT b v K T q w h.mem);rw [show K.isVar v=true by simp [KV.isVar,hv]] at HV;have HC:=Lib.hid (KI q.t q.FT v T D w h.mem.tab hT);clear h hT
 go_enter Tryz.func49,Tryz.ntmps49
 go_wp2_with fail;refine HV.out.mono ?_;rintro e w1 ⟨rfl,rfl⟩;go_wp2_with fail;refine HC.out.mono ?_;rintro e w2 ⟨rfl,hu⟩;have HU:=Lib.hid hu;clear hu;go_wp2_with fail;go_ret2;exact ⟨rfl,HU.out⟩
theorem yg {D:DM} {es:List (Lit × DM)} (e:D=.map es) {ks:List Lit} (hn:ks.Nodup) (h:∀ k,k∈ks->Maps.has D k=true):ks.length<=Maps.size D:=by
 subst e
 have mr:ks ⊆ es.map (·.1):=by
  intro k hk
  have:=h k hk
  simp only [Maps.has,List.any_eq_true] at this
  obtain ⟨p,hp,hs⟩:=this;exact List.mem_map.2 ⟨p,hp,WideAt.sameKey_eq hs⟩
 have:=List.Nodup.length_le_of_subset hn mr
 simpa [Maps.size] using this
def KV.dE (K:KV) (v:Nat):List Nat:=K.nodes.filter fun r=>decide (K.vI r=(v:Int))
theorem KV.qY {K:KV} {v r:Nat}:r∈K.dE v↔2<=r/\K.A.tk r=true/\K.vI r=(v:Int):=by
 unfold KV.dE;rw [List.mem_filter,KV.bP,decide_eq_true_eq,and_assoc]
theorem dW.agY {T:List DM} {K:KV} (h:dW T K []) (hw:K.Wf []) {v:Nat} {D:DM} (hv:T[v]?=some D) (hc:Maps.Canon D) (ht:Tidy D):Maps.size D=(K.dE v).length:=by
 have AL:(K.dE v).Nodup:=List.Pairwise.filter _ K.gq
 have key:∀ r,r∈K.dE v->∃ p,2<=r/\K.A.list[r]?=some p/\p.taken=true/\p.var=(v:Int):=fun r hr=>by
  obtain ⟨h2,h3,h4⟩:=KV.qY.1 hr;obtain ⟨p,hp,aH⟩:=ag.aP.1 h3;rw [KV.jK hp] at h4;exact ⟨p,h2,hp,aH,h4⟩
 let kf:Nat->Lit:=fun r=>match K.A.list[r]? with | some p=>kG p | none=>nk 0 0 0
 have kfe:∀ r p,K.A.list[r]?=some p->kf r=kG p:=fun r p hp=>by show (match K.A.list[r]? with | some p=>kG p | none=>nk 0 0 0)=_;rw [hp]
 have hkn:((K.dE v).map kf).Nodup:=by
  refine List.pairwise_map.2 (List.Pairwise.imp_of_mem (fun {a b} ha hb hne e=>hne ?_) AL);obtain ⟨p,h2,hp,aH,_⟩:=key a ha;obtain ⟨c,h2',hc',lI,_⟩:=key b hb;rw [kfe a p hp,kfe b c hc'] at e;exact h.uniq hw h2 h2' hp hc' aH lI (by simp) (by simp) e
 refine Nat.le_antisymm ?_ ?_
 ·have:=gm hc (ks:=(K.dE v).map kf) (fun k hk=>by
   obtain ⟨r,p,h2,hp,aH,kD,rfl,_⟩:=h.dom v D k hv hk
   exact List.mem_map.2 ⟨r,KV.qY.2 ⟨h2,ag.aP.2 ⟨p,hp,aH⟩,by rw [KV.jK hp];exact kD⟩,kfe r p hp⟩) ht
  simpa using this
 ·obtain ⟨es,e,_⟩:=hc
  have:=yg e hkn (fun k hk=>by
   obtain ⟨r,hr,rfl⟩:=List.mem_map.1 hk;obtain ⟨p,h2,hp,aH,kD⟩:=key r hr;rw [kfe r p hp]
   exact (h.at_ r p D h2 hp aH (by simp) (by rw [kD];exact hv)).1)
  simpa using this
end Go.Proofs.YtfkopmhpppeheaaGreat
namespace Go.Proofs.YtfkopmhpppeheaaGreat
def WN (l j:Nat):Nat:=if j=l then l+1 else if j=l+1 then l else j
structure ExB (K:KV) (l:Nat) (K':KV):Prop where
 vr:K'.vars=K.vars
 pl:K'.A.places=K.A.places
 od:K'.order=bM K.order l
 hd:∀ r,K'.hold r=K.hold r
 den:∀ r,K.A.tk r=true->K'.A.tk r=true->∀ z,K'.den r z=K.den r z
 uq:∀ r s,K.A.tk r=true->K'.A.tk s=true->(∀ z,K.den r z=K'.den s z)->r=s
theorem xK.bare {K K1 K2:KV} {l:Nat} (h:xK K l K1) (hk:K2.Ok) (hA:K2.A=K1.A) (hv:K2.vars=K1.vars) (ho:K2.order=K1.order) (hl:K2.level=K1.level) (hh:K2.holds=K1.holds):ExB K l K2:=by
 have e:K2.Ext K1:=⟨fun r p hp _=>by rw [<- hA];exact hp,by rw [hA],hv.symm,ho.symm,hl.symm⟩
 have d:∀ r,K2.A.tk r=true->∀ z,K1.den r z=K2.den r z:=fun r ht z=>e.den hk.wf z ht
 have t:∀ r,K2.A.tk r=K1.A.tk r:=fun r=>by rw [hA]
 refine ⟨hv.trans h.vr,by rw [hA];exact h.pl,ho.trans h.od,fun r=>?_,fun r t1 t2 z=>?_,fun r s t1 t2 hd=>?_⟩
 ·rw [<- h.hd r];unfold KV.hold;rw [hh]
 ·rw [<- d r t2];exact h.den r t1 (by rw [<- t];exact t2) z
 ·exact h.uq r s t1 (by rw [<- t];exact t2) fun z=>by rw [d s t2];exact hd z
structure XP (K:KV) (l:Nat) (K':KV):Prop where
 ok:K.Ok
 un:K.Uni
 ok':K'.Ok
 un':K'.Uni
 hl:l+2<=K.vars
 ex:ExB K l K'
theorem XP.sym {K K':KV} {l:Nat} (h:XP K l K'):XP K' l K:=by
 have hx:=h.ex;have ol:=h.ok.ord.pm.ol;have hl:=h.hl;refine ⟨h.ok',h.un',h.ok,h.un,by rw [hx.vr];exact hl,hx.vr.symm,hx.pl.symm,?_,fun r=>(hx.hd r).symm,fun r t1 t2 z=>(hx.den r t2 t1 z).symm,fun r s t1 t2 e=>(hx.uq s r t2 t1 fun z=>(e z).symm).symm⟩;have e:K'.order=bM K.order l:=hx.od;rw [e];exact (oN (o:=K.order) (l:=l) (by omega)).symm
theorem KV.Ok.kz {K:KV} (h:K.Ok) {r:Nat} (hr:0<K.hold r):K.A.tk r=true:=(h.wf.ht r hr).2
theorem XP.held {K K':KV} {l f:Nat} (h:XP K l K') (hf:0<K.hold f) (z:Nat->Bool):K'.den f z=K.den f z :=
 h.ex.den f (h.ok.kz hf) (h.ok'.kz (by rw [h.ex.hd];exact hf)) z
theorem XP.lev {K K':KV} {l v:Nat} (h:XP K l K') (hv:v<K.vars):K'.lev v=WN l (K.lev v):=by
 have pm:=h.ok.ord.pm;have pm':=h.ok'.ord.pm;have hl:=h.hl;have ol:=pm.ol;have h1:=pm.lo v hv
 have hsl:WN l (K.lev v)<K.vars:=by unfold WN;split <;> (try split) <;> omega
 have e:K'.order[WN l (K.lev v)]?=some v:=by
  have e:K'.order=bM K.order l:=h.ex.od;have bI:=pm.nI hv;rw [e,iQ (by omega)];unfold WN
  by_cases e1:K.lev v=l
  ·rw [if_pos e1,if_pos rfl,<- e1,h1.2]
  ·rw [if_neg e1]
   by_cases e2:K.lev v=l+1
   ·rw [if_pos e2,if_neg (by omega),if_pos rfl,<- e2,h1.2]
   ·rw [if_neg e2,if_neg e2,if_neg e1,bI]
 exact (pm'.lU e).2
theorem XP.mix {K K':KV} {l m:Nat} (h:XP K l K') (hm:m≠l+1) (a z:Nat->Bool):K'.mix m a z=K.mix m a z:=by
 funext v
 simp only [KV.mix]
 have oV:=h.ex.vr
 by_cases hv:v<K.vars
 ·have e:=h.lev hv
  have:(v<K'.vars/\K'.lev v<m)↔(v<K.vars/\K.lev v<m):=by
   rw [e,oV];unfold WN;split
   ·omega
   ·split <;> omega
  simp only [this]
 ·rw [if_neg (by omega),if_neg (by omega)]
theorem KV.KJ {K:KV} (hp:K.Perm) {i v:Nat} (hv:v<K.vars) (hi:K.lev v=i) (c y:Nat->Bool):K.mix (i+1) c y=K.mix i c (upd y v (c v)):=by
 funext u
 simp only [KV.mix,upd]
 by_cases hu:u=v
 ·subst hu;rw [if_pos ⟨hv,by omega⟩,if_neg (by omega),if_pos rfl]
 ·rw [if_neg hu]
  by_cases h1:u<K.vars/\K.lev u<i
  ·rw [if_pos h1,if_pos ⟨h1.1,by omega⟩]
  ·rw [if_neg h1,if_neg]
   rintro ⟨h2,h3⟩;refine hu (hp.inj h2 hv ?_);omega
theorem KV.Ok.uo {K:KV} (hk:K.Ok) {r:Nat} (h2:2<=r) (ht:K.A.tk r=true):∃ f a,0<K.hold f/\∀ y,K.den r y=K.den f (K.mix (K.dep r) a y):=by
 obtain ⟨f,hf,hu⟩:=hk.DR h2 ht;obtain ⟨a,ha⟩:=hk.Qg (hk.kz hf) hu;exact ⟨f,a,hf,ha⟩
theorem XP.old {K K':KV} {l r:Nat} (h:XP K l K') (ht:K'.A.tk r=true) (hd:K'.dep r≠l+1):K.A.tk r=true:=by
 by_cases h2:2<=r
 ·obtain ⟨f,a,hf,he⟩:=h.ok'.uo h2 ht
  have hf0:0<K.hold f:=by rw [<- h.ex.hd];exact hf
  obtain ⟨x,hx,VC⟩:=K.lS h.ok (K'.dep r) a _ f (Nat.le_refl _) (h.ok.kz hf0)
  have:x=r:=h.ex.uq x r hx ht fun z=>by rw [VC,he,h.mix hd,h.held hf0]
  rw [<- this];exact hx
 ·exact h.ok.oq (by omega)
theorem XP.other {K K':KV} {l r:Nat} (h:XP K l K') (h2:2<=r) (ht:K'.A.tk r=true) (h0:K'.dep r≠l) (h1:K'.dep r≠l+1):K.A.tk r=true/\K.dep r≠l/\K.dep r≠l+1:=by
 have tk:=h.old ht h1;refine ⟨tk,?_⟩;have pR:∀ z,K'.den r z=K.den r z:=h.ex.den r tk ht;have WO:K'.den r=K.den r:=funext pR;obtain ⟨v,hv,hd,hh,bK⟩:=h.ok'.gI h.un' h2 ht;obtain ⟨w,hw,wP,Lr,ac4⟩:=h.ok.gI h.un h2 tk;rw [WO] at hh bK;have oV:=h.ex.vr;have lv:=h.lev (v:=v) (by omega);have lw:=h.lev hw
 have a1:¬ K'.lev w<K'.lev v:=fun aW=>bK w (by omega) aW Lr
 have a2:¬ K.lev v<K.lev w:=fun aW=>ac4 v (by omega) aW hh
 unfold WN at lv lw
 split at lv <;> split at lw <;> (try split at lv) <;> (try split at lw) <;> omega
def kH (K:KV) (x:Nat) (q:Nat × Nat) (z:Nat->Bool):Bool:=if z x then K.den q.2 z else K.den q.1 z
theorem KL {K:KV} {l x y:Nat} (nb:Nb K l x y) {q s:Nat × Nat} (q1:Deep K l q.1) (q2:Deep K l q.2) (s1:Deep K l s.1) (s2:Deep K l s.2) (e:∀ z,kH K x q z=kH K x s z):q=s:=by
 have key:∀ (b:Bool) (a c:Nat),Deep K l a->Deep K l c->(∀ z,kH K x q (upd z x b)=K.den a (upd z x b))->(∀ z,kH K x s (upd z x b)=K.den c (upd z x b))->a=c:=fun b a c ha hc h1 h2 =>
  KV.canon nb.ok.wf nb.ok.ord nb.un _ _ _ ha.1 hc.1 (Nat.le_refl _) fun z=>by
   have:=e (upd z x b);rw [h1,h2,(nb.aO ha z b).1,(nb.aO hc z b).1] at this;exact this
 have e1:=key false q.1 s.1 q1 s1 (fun z=>by simp [kH,bD]) (fun z=>by simp [kH,bD]);have e2:=key true q.2 s.2 q2 s2 (fun z=>by simp [kH,bD]) (fun z=>by simp [kH,bD]);exact Prod.ext e1 e2
theorem XP.nb {K K':KV} {l:Nat} (h:XP K l K'):Nb K l (K.order.getD l 0) (K.order.getD (l+1) 0):=⟨h.ok,h.un,h.hl,rfl,rfl⟩
theorem XP.new {K K':KV} {l r:Nat} {C:List bY} {N:List (Nat × Nat)} (h:XP K l K') (CA:dU K l (K.order.getD l 0) (K.order.getD (l+1) 0) C) (F:lZ K (K.order.getD l 0) (C.flatMap bY.qs) N) (ht:K'.A.tk r=true) (hn:K.A.tk r=false) :
  ∃ q,q∈N/\∀ z,K'.den r z=kH K (K.order.getD l 0) q z:=by
 have nb:=h.nb;obtain ⟨x,ex⟩ : ∃ x,K.order.getD l 0=x:=⟨_,rfl⟩;obtain ⟨y,ey⟩ : ∃ y,K.order.getD (l+1) 0=y:=⟨_,rfl⟩;rw [ex,ey] at CA nb;rw [ex] at F ⊢;obtain ⟨hx,hy,lx,ly,nZ⟩:=nb.facts;have hk:=h.ok
 have h2:2<=r:=by
  refine Classical.byContradiction fun h2=>?_
  have:=hk.oq (r:=r) (by omega)
  rw [hn] at this;cases this
 have hd:K'.dep r=l+1:=Classical.byContradiction fun hd=>by
  have:=h.old ht hd
  rw [hn] at this;cases this
 obtain ⟨f,a,hf,he⟩:=h.ok'.uo h2 ht
 have hf0:0<K.hold f:=by rw [<- h.ex.hd];exact hf
 obtain ⟨s,hs,Td⟩:=K.lS hk l a _ f (Nat.le_refl _) (hk.kz hf0);have oV:=h.ex.vr
 have lyy:K'.lev y=l:=by rw [h.lev hy,ly,WN,if_neg (by omega),if_pos rfl]
 have sV:∀ z,K'.den r z=K.den s (upd z y (a y)):=fun z=>by
  rw [he,hd,KV.KJ h.ok'.ord.pm (by omega) lyy,h.mix (by omega),h.held hf0,Td]
 generalize a y=b at sV
 have gone:∀ t,K.A.tk t=true->(∀ z,K'.den r z=K.den t z)->False:=fun t tt e=>by
  have:t=r:=h.ex.uq t r tt ht fun z=>(e z).symm
  subst this
  rw [hn] at tt;cases tt
 by_cases s2:2<=s
 ·obtain ⟨p,v,hp,aH,hv,gK,t1,t2,vT⟩:=hk.wf.cZ s2 hs
  have hb:=hk.ord.below hk.wf s2 hp aH
  have hsl:l<=K.dep s:=by
   obtain ⟨v',hv',Xp,⟨z,hz⟩,_⟩:=hk.gI h.un s2 hs
   refine Classical.byContradiction fun aW=>hz ?_
   rw [Td,Td]
   congr 1
   funext w
   simp only [KV.mix,upd]
   by_cases ew:w=v'
   ·subst ew;rw [if_pos ⟨hv',by omega⟩,if_pos ⟨hv',by omega⟩]
   ·simp [ew]
  by_cases c1:l+2<=K.dep s
  ·exact (gone s hs fun z=>by rw [sV,KV.dF hk.wf hk.ord hs hy (by omega)]).elim
  ·by_cases c2:K.dep s=l+1
   ·have:v=y:=hk.ord.pm.inj gK hy (by omega)
    subst this
    have e0:=fun z=>KV.kQ hk.wf hk.ord s2 hp aH z
    have e1:=fun z=>KV.kP hk.wf hk.ord s2 hp aH z
    rw [show p.var.toNat=v by omega] at e0 e1
    cases b with
    | false=>exact (gone p.lo t1 fun z=>by rw [sV,e0]).elim
    | true=>exact (gone p.hi t2 fun z=>by rw [sV,e1]).elim
   ·have:v=x:=hk.ord.pm.inj gK hx (by omega)
    subst this
    by_cases oz:K.gZ v y s
    ·obtain ⟨c,hc,rfl⟩:=List.mem_map.1 (CA.all s oz)
     obtain ⟨p',_,_,_,_,_,F4⟩:=(CA.ok c hc).at_
     have hq:∃ q,q∈bY.qs c/\∀ z,K'.den r z=kH K v q z:=by
      cases b with
      | false =>
       refine ⟨(c.a00,c.a10),by simp [bY.qs],fun z=>?_⟩
       rw [sV,F4.den,bD,ig z false nZ,(nb.aO F4.d10 z false).2,(nb.aO F4.d00 z false).2];rfl
      | true =>
       refine ⟨(c.a01,c.a11),by simp [bY.qs],fun z=>?_⟩
       rw [sV,F4.den,bD,ig z true nZ,(nb.aO F4.d11 z true).2,(nb.aO F4.d01 z true).2];rfl
     obtain ⟨q,hq,hqe⟩:=hq;have PH:q∈C.flatMap bY.qs:=List.mem_flatMap.2 ⟨c,hc,hq⟩;obtain ⟨d1,d2⟩:=CA.deep PH;refine ⟨q,(F.iff q).2 ⟨PH,fun e=>?_,fun h3=>?_⟩,hqe⟩
     ·exact gone q.1 d1.1 fun z=>by rw [hqe,kH,e];simp
     ·obtain ⟨t,pt,tt2,lQ,htt,Ym,e1,e2⟩:=h3
      exact gone t (ag.aP.2 ⟨pt,lQ,htt⟩) fun z=>by rw [hqe,kH,KV.dD hk.wf hk.ord tt2 lQ htt,show pt.var.toNat=v by omega,e1,e2]
    ·have k1:K.vI p.lo≠(y:Int):=fun e=>oz ⟨s2,p,hp,aH,hv,.inl e⟩
     have k2:K.vI p.hi≠(y:Int):=fun e=>oz ⟨s2,p,hp,aH,hv,.inr e⟩
     have g1:=nb.kid t1 (by omega) k1;have g2:=nb.kid t2 (by omega) k2
     exact (gone s hs fun z=>by
      rw [sV,KV.dD hk.wf hk.ord s2 hp aH,KV.dD hk.wf hk.ord s2 hp aH,show p.var.toNat=v by omega,ig z _ nZ,(nb.aO g1 z _).2,(nb.aO g2 z _).2]).elim
 ·exact (gone s hs fun z=>by rw [sV,K.aN (by omega),K.aN (by omega)]).elim
theorem XP.came {K K':KV} {l:Nat} {C:List bY} {N:List (Nat × Nat)} (h:XP K l K') (CA:dU K l (K.order.getD l 0) (K.order.getD (l+1) 0) C) (F:lZ K (K.order.getD l 0) (C.flatMap bY.qs) N) {q:Nat × Nat} (hq:q∈N) :
  ∃ r,K'.A.tk r=true/\K.A.tk r=false/\∀ z,K'.den r z=kH K (K.order.getD l 0) q z:=by
 have nb:=h.nb;obtain ⟨x,ex⟩ : ∃ x,K.order.getD l 0=x:=⟨_,rfl⟩;obtain ⟨y,ey⟩ : ∃ y,K.order.getD (l+1) 0=y:=⟨_,rfl⟩;rw [ex,ey] at CA nb;rw [ex] at F ⊢;obtain ⟨hx,hy,lx,ly,nZ⟩:=nb.facts;have hk:=h.ok;obtain ⟨PH,xZ,bK⟩:=(F.iff q).1 hq;obtain ⟨d1,d2⟩:=CA.deep PH;obtain ⟨c,hc,hm⟩:=List.mem_flatMap.1 PH;obtain ⟨p,hp,aH,hv,_,_,F4⟩:=(CA.ok c hc).at_;have c2:2<=c.r:=(CA.ok c hc).cr.1;have ct:K.A.tk c.r=true:=ag.aP.2 ⟨p,hp,aH⟩
 have Qd:K.dep c.r=l:=by rw [nb.kW hp hv];exact lx
 obtain ⟨f,a,hf,he⟩:=hk.uo c2 ct;rw [Qd] at he
 have hb:∃ b,∀ z,kH K x q z=K.den c.r (upd z y b):=by
  simp only [bY.qs,List.mem_cons,List.not_mem_nil,or_false] at hm
  rcases hm with rfl | rfl
  ·refine ⟨false,fun z=>?_⟩
   rw [F4.den,bD,ig z false nZ,(nb.aO F4.d10 z false).2,(nb.aO F4.d00 z false).2];rfl
  ·refine ⟨true,fun z=>?_⟩
   rw [F4.den,bD,ig z true nZ,(nb.aO F4.d11 z true).2,(nb.aO F4.d01 z true).2];rfl
 obtain ⟨b,hb⟩:=hb;have oV:=h.ex.vr
 have lyy:K'.lev y=l:=by rw [h.lev hy,ly,WN,if_neg (by omega),if_pos rfl]
 have hf':0<K'.hold f:=by rw [h.ex.hd];exact hf
 obtain ⟨t,ht,hte⟩:=K'.lS h.ok' (l+1) (upd a y b) _ f (Nat.le_refl _) (h.ok'.kz hf')
 have pR:∀ z,K'.den t z=kH K x q z:=fun z=>by
  rw [hte,KV.KJ h.ok'.ord.pm (by omega) lyy,h.mix (by omega),h.held hf,hb,he,bD]
  congr 1
  funext w
  by_cases ew:w=y
  ·subst ew;simp [KV.mix,upd,ly];intros;omega
  ·simp [KV.mix,upd,ew]
 refine ⟨t,ht,?_,pR⟩
 refine Classical.byContradiction fun hnn=>?_
 have tk:K.A.tk t=true:=by
  cases hh:K.A.tk t with
  | true=>rfl
  | false=>exact absurd hh hnn
 have WO:∀ z,K.den t z=if z x then K.den q.2 z else K.den q.1 z:=fun z=>(h.ex.den t tk ht z).symm.trans (pR z)
 by_cases t2:2<=t
 ·exact bK (nb.pair d1 d2 xZ t2 tk WO)
 ·refine xZ (KV.canon hk.wf hk.ord nb.un _ _ _ d1.1 d2.1 (Nat.le_refl _) fun z=>?_)
  have e1:=WO (upd z x true);have e0:=WO (upd z x false);rw [bD] at e1 e0;rw [K.aN (by omega),(nb.aO d2 z true).1] at e1;rw [K.aN (by omega),(nb.aO d1 z false).1] at e0
  simp at e1 e0
  rw [<- e1,<- e0]
def D6 (K K':KV):List Nat:=K'.lives.filter fun r=>!(K.A.tk r)
theorem yh {K K':KV} {r:Nat}:r∈D6 K K'↔K'.A.tk r=true/\K.A.tk r=false:=by
 unfold D6;rw [List.mem_filter,KV.dQ];simp
theorem Oi (K K':KV):(D6 K K').Nodup:=List.Pairwise.filter _ K'.ja
theorem XP.count {K K':KV} {l:Nat} {C:List bY} {N:List (Nat × Nat)} (h:XP K l K') (CA:dU K l (K.order.getD l 0) (K.order.getD (l+1) 0) C) (F:lZ K (K.order.getD l 0) (C.flatMap bY.qs) N):N.length=(D6 K K').length:=by
 have deep:∀ q,q∈N->Deep K l q.1/\Deep K l q.2:=fun q hq=>CA.deep ((F.iff q).1 hq).1
 refine Nat.le_antisymm ?_ ?_
 ·let g:Nat × Nat->Nat:=fun q=>if hq:q∈N then (h.came CA F hq).choose else 0
  have hg:∀ q,q∈N->K'.A.tk (g q)=true/\K.A.tk (g q)=false/\∀ z,K'.den (g q) z=kH K (K.order.getD l 0) q z:=fun q hq=>by
   simp only [g,dif_pos hq]
   exact (h.came CA F hq).choose_spec
  have nd:(N.map g).Nodup:=List.pairwise_map.2 (List.Pairwise.imp_of_mem (fun {a b} ha hb hne e=>hne (KL h.nb (deep a ha).1 (deep a ha).2 (deep b hb).1 (deep b hb).2 fun z=>by rw [<- (hg a ha).2.2,<- (hg b hb).2.2,e])) F.nd)
  have:=List.Nodup.length_le_of_subset nd (l₂:=D6 K K') fun x hx=>by
   obtain ⟨q,hq,rfl⟩:=List.mem_map.1 hx;exact yh.2 ⟨(hg q hq).1,(hg q hq).2.1⟩
  simpa using this
 ·let g:Nat->Nat × Nat:=fun r=>if hr:K'.A.tk r=true/\K.A.tk r=false then (h.new CA F hr.1 hr.2).choose else (0,0)
  have hg:∀ r,r∈D6 K K'->g r∈N/\∀ z,K'.den r z=kH K (K.order.getD l 0) (g r) z:=fun r hr=>by
   have Il:=yh.1 hr
   simp only [g,dif_pos Il]
   exact (h.new CA F Il.1 Il.2).choose_spec
  have nd:((D6 K K').map g).Nodup:=List.pairwise_map.2 (List.Pairwise.imp_of_mem (fun {a b} ha hb hne e=>hne (KV.canon h.ok'.wf h.ok'.ord h.un' _ _ _ (yh.1 ha).1 (yh.1 hb).1 (Nat.le_refl _) fun z=>by rw [(hg a ha).2,(hg b hb).2,e])) (Oi K K'))
  have:=List.Nodup.length_le_of_subset nd (l₂:=N) fun x hx=>by
   obtain ⟨r,hr,rfl⟩:=List.mem_map.1 hx;exact (hg r hr).1
  simpa using this
theorem Zq {K K':KV} (hk:K.Ok) (dB:K'.Ok):K.A.used+(D6 K K').length=K'.A.used+(D6 K' K).length:=by
 have key:∀ {A B:KV},A.Ok->A.A.used=(A.lives.filter fun r=>B.A.tk r).length+(D6 B A).length:=fun {A B} ha=>by
  rw [<- A.pV ha.wf,D6,<- List.countP_eq_length_filter,<- List.countP_eq_length_filter];have hh:=List.length_eq_countP_add_countP (fun r=>B.A.tk r) (l:=A.lives);rw [hh]
  congr 2
  funext a
  cases B.A.tk a <;> rfl
 have e:(K.lives.filter fun r=>K'.A.tk r).length=(K'.lives.filter fun r=>K.A.tk r).length:=Nat.le_antisymm
  (List.Nodup.length_le_of_subset (List.Pairwise.filter _ K.ja) fun r hr=>by
   rw [List.mem_filter,KV.dQ] at hr ⊢;exact ⟨hr.2,hr.1⟩)
  (List.Nodup.length_le_of_subset (List.Pairwise.filter _ K'.ja) fun r hr=>by
   rw [List.mem_filter,KV.dQ] at hr ⊢;exact ⟨hr.2,hr.1⟩)
 have e1:=key (B:=K') hk;have e2:=key (B:=K) dB;omega
theorem XP.room {K K':KV} {l n:Nat} (h:XP K l K') (hn:jr K l n):jr K' l n:=by
 intro C' N' KN F'
 obtain ⟨C,CA⟩:=dU.exists h.nb;obtain ⟨N,F⟩:=lZ.exists K (K.order.getD l 0) (C.flatMap bY.qs);have e1:=hn C N CA F;have e2:=h.count CA F;have e3:=h.sym.count KN F';have e4:=Zq h.ok h.ok';omega
theorem XP.live {K K':KV} {l u v:Nat} (h:XP K l K') (hu:K.order.getD l 0=u) (hv:K.order.getD (l+1) 0=v) :
  K'.A.used+(K.dE u).length+(K.dE v).length=K.A.used+(K'.dE u).length+(K'.dE v).length:=by
 have nb:=h.nb;rw [hu,hv] at nb;obtain ⟨hx,hy,lx,ly,nZ⟩:=nb.facts;have oV:=h.ex.vr
 have lx':K'.lev u=l+1:=by rw [h.lev hx,lx,WN,if_pos rfl]
 have ly':K'.lev v=l:=by rw [h.lev hy,ly,WN,if_neg (by omega),if_pos rfl]
 have key:∀ {A:KV},A.Ok->A.A.used=(A.nodes.filter fun r=>decide (A.vI r≠(u:Int)/\A.vI r≠(v:Int))).length+(A.dE u).length+(A.dE v).length+2:=fun {A} ha=>by
  rw [<- ha.nodes_len];unfold KV.dE;generalize A.nodes=L
  induction L with
  | nil=>rfl
  | cons a L ih =>
   have huv:(u:Int)≠(v:Int):=by omega
   by_cases e1:A.vI a=(u:Int)
   ·have e2:¬ A.vI a=(v:Int):=by rw [e1];exact huv
    simp only [List.filter_cons,e1,huv,ne_eq,not_true_eq_false,false_and,decide_false,decide_true,if_true,Bool.false_eq_true,if_false,List.length_cons] at ih ⊢
    simp at ih ⊢
    omega
   ·by_cases e2:A.vI a=(v:Int)
    ·simp [e2,huv.symm] at ih ⊢
     omega
    ·simp [e1,e2] at ih ⊢
     omega
 have side:∀ {A:KV} {r:Nat},A.Ok->A.vars=K.vars->2<=r->A.A.tk r=true->∀ {w:Nat},w<K.vars->(A.vI r=(w:Int)↔A.dep r=A.lev w):=fun {A r} ha oV h2 ht {w} hw=>by
  obtain ⟨p,q,hp,aH,kD,O9,_,_,hd⟩:=ha.wf.cZ h2 ht;rw [KV.jK hp,kD,hd];constructor
  ·intro e;rw [show q=w by omega]
  ·intro e;rw [ha.ord.pm.inj O9 (by omega) e]
 have sub:∀ {A B:KV} {r:Nat},XP A l B->A.vars=K.vars->(B.lev u=l/\B.lev v=l+1\/B.lev u=l+1/\B.lev v=l)->(A.lev u=l/\A.lev v=l+1\/A.lev u=l+1/\A.lev v=l)->r∈(B.nodes.filter fun r=>decide (B.vI r≠(u:Int)/\B.vI r≠(v:Int)))->r∈(A.nodes.filter fun r=>decide (A.vI r≠(u:Int)/\A.vI r≠(v:Int))):=fun {A B r} vz ha hB hA hr=>by
  rw [List.mem_filter,KV.bP,decide_eq_true_eq] at hr ⊢;obtain ⟨⟨h2,ht⟩,hru,hrv⟩:=hr;have hb:B.vars=K.vars:=vz.ex.vr.trans ha;rw [ne_eq,side vz.ok' hb h2 ht hx] at hru;rw [ne_eq,side vz.ok' hb h2 ht hy] at hrv;obtain ⟨g1,g2,g3⟩:=vz.other h2 ht (by omega) (by omega);refine ⟨⟨h2,g1⟩,?_,?_⟩
  ·rw [ne_eq,side vz.ok ha h2 g1 hx];omega
  ·rw [ne_eq,side vz.ok ha h2 g1 hy];omega
 have e:(K.nodes.filter fun r=>decide (K.vI r≠(u:Int)/\K.vI r≠(v:Int))).length=(K'.nodes.filter fun r=>decide (K'.vI r≠(u:Int)/\K'.vI r≠(v:Int))).length:=Nat.le_antisymm
  (List.Nodup.length_le_of_subset (List.Pairwise.filter _ K.gq) fun r hr=>sub h.sym oV (.inl ⟨lx,ly⟩) (.inr ⟨lx',ly'⟩) hr)
  (List.Nodup.length_le_of_subset (List.Pairwise.filter _ K'.gq) fun r hr=>sub h rfl (.inr ⟨lx',ly'⟩) (.inl ⟨lx,ly⟩) hr)
 have e1:=key h.ok;have e2:=key h.ok';omega
theorem PQ {K B:KV} (hk:K.Ok) (hu:K.Uni) (hb:B.Ok) (hv:B.vars=K.vars) (ho:B.order=K.order) (hd:∀ r,0<K.hold r->0<B.hold r/\∀ z,B.den r z=K.den r z):K.A.used<=B.A.used:=by
 refine Has.used (fun r ht=>?_) hk hu hb
 by_cases h2:2<=r
 ·obtain ⟨f,a,hf,he⟩:=hk.uo h2 ht
  obtain ⟨hf',pR⟩:=hd f hf;obtain ⟨s,hs,Td⟩:=B.lS hb (K.dep r) a _ f (Nat.le_refl _) (hb.kz hf');refine ⟨s,hs,fun z=>?_⟩;rw [he,Td,pR]
  congr 1
  funext v
  simp only [KV.mix]
  by_cases hvv:v<K.vars
  ·have:B.lev v=K.lev v:=by
    have:=(hb.ord.pm.lU (i:=K.lev v) (v:=v) (by rw [ho];exact hk.ord.pm.nI hvv)).2;exact this
   rw [this,hv]
  ·rw [if_neg (by omega),if_neg (by omega)]
 ·exact ⟨r,hb.oq (by omega),fun z=>by rw [K.aN (by omega),B.aN (by omega)]⟩
theorem Zr {K B:KV} (hk:K.Ok) (hu:K.Uni) (hb:B.Ok) (XK:B.Uni) (hv:B.vars=K.vars) (ho:B.order=K.order) (hh:∀ r,B.hold r=K.hold r) (hd:∀ r,0<K.hold r->∀ z,B.den r z=K.den r z):B.A.used=K.A.used :=
 Nat.le_antisymm (PQ hb XK hk hv.symm ho.symm fun r hr=>by rw [hh] at hr;exact ⟨hr,fun z=>(hd r hr z).symm⟩) (PQ hk hu hb hv ho fun r hr=>⟨by rw [hh];exact hr,hd r hr⟩)
structure WQ (K:KV) (l:Nat) (K':KV):Prop where
 live:((K'.A.used:Int)-2)=(K.A.used:Int)-2-(K.dE (K.order.getD l 0)).length-(K.dE (K.order.getD (l+1) 0)).length+(K'.dE (K.order.getD l 0)).length+(K'.dE (K.order.getD (l+1) 0)).length
 wid:KH K l->∀ v,(K'.dE v).length=(K.dE v).length
theorem KV.IU (K:KV) (l v:Nat):(K.qc l).dE v=K.dE v:=by
 unfold KV.dE KV.nodes KV.lives KV.vI KV.qc;rfl
theorem KV.KO (K:KV) (l v:Nat):(K.dX l).dE v=K.dE v:=by
 unfold KV.dE KV.nodes KV.lives KV.vI KV.dX;rfl
theorem WQ.of {K K':KV} {l:Nat} (h:XP K l K') (hf:KH K l->∀ v,K'.dE v=K.dE v):WQ K l K':=by
 refine ⟨?_,fun f v=>by rw [hf f]⟩;have:=h.live rfl rfl;omega
theorem ExL.yes {K K':KV} {l:Nat} (hk:K.Ok) (hu:K.Uni) (dB:K'.Ok) (jy:K'.Uni) (hl:l+2<=K.vars) (h:∃ K1,xK K l K1/\(KH K l->K1=K.qc l)/\K'=K1.dX l):XP K l K'/\WQ K l K':=by
 obtain ⟨K1,X,hf,rfl⟩:=h;have h:XP K l (K1.dX l):=⟨hk,hu,dB,jy,hl,X.bare dB rfl rfl rfl rfl rfl⟩;exact ⟨h,.of h fun f v=>by rw [KV.KO,hf f,KV.IU]⟩
end Go.Proofs.YtfkopmhpppeheaaGreat
