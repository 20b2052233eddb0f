import Derived.Test.YtfkopmhpppeheaaGreatPF34
import Derived.Test.YtfkopmhpppeheaaGreatPF12
import Derived.Test.YtfkopmhpppeheaaGreatPF29
import Derived.Test.YtfkopmhpppeheaaGreatPF1
import Derived.Test.YtfkopmhpppeheaaGreatPF20
import Derived.Test.YtfkopmhpppeheaaGreatPF28
import Derived.Test.YtfkopmhpppeheaaGreatPF33
import Derived.Maps.OwnSet
import Derived.Laws.ResultCell
import Derived.Laws.Rows
set_option maxRecDepth 100000
set_option maxHeartbeats 6400000
namespace Go.Proofs.YtfkopmhpppeheaaGreat
open Go.RowKit Go.Maps Go.ChangeMaps Go.WideShapes
structure Blt (n:Nat) (K:KV) (refs:List Nat):Prop where
 vr:K.vars=n
 pl:K.A.places=8192
 tr:K.trail=[]
 tk:∀ r,r∈refs->K.A.tk r=true
 ne:0<refs.length
 hl:refs.length<=41
 hb:∀ x,K.hold x+1<=refs.length
 hr:∀ r,r∈refs->r<2\/0<K.hold r
theorem Blt.new {n:Nat} (h1:1<=n) (hn:n<=64):Blt n (KV.new n 8192) [1] :=
 ⟨rfl,rfl,rfl,fun r hr=>by simp at hr;subst hr;exact (KV.new_ok h1 hn (by omega) (by omega)).tk_const (by omega),by simp,by simp,fun x=>by simp [KV.hold,KV.new],fun r hr=>by simp at hr;omega⟩
theorem Blt.op {n r:Nat} {code:Int} {t:(Nat->Bool)->Bool} {K K':KV} {refs:List Nat} (h:Blt n K refs) (hl:refs.length<=40) (O:OpR K t r code K'):(code=0/\Blt n K' (refs++[r]))\/(code=9/\Blt n K' refs):=by
 rcases O with ⟨rfl,O⟩ | ⟨rfl,rfl,B,s,s1,s2,s3⟩ | ⟨rfl,rfl,B,hno⟩
 ·refine .inl ⟨rfl,O.ext.vr.trans h.vr,O.ext.pl.trans h.pl,O.tr,fun x hx=>?_,by simp,by simp;omega,fun x=>?_,fun x hx=>?_⟩
  ·rcases List.mem_append.1 hx with hx | hx
   ·exact O.ext.tk (h.tk x hx)
   ·simp at hx;subst hx;exact O.tk
  ·have:=h.hb x
   rw [O.hd,List.length_append,List.length_singleton];split <;> omega
  ·rw [O.hd]
   rcases List.mem_append.1 hx with hx | hx
   ·have:=h.hr x hx
    omega
   ·simp at hx;subst hx
    by_cases h2:x<2
    ·exact .inl h2
    ·rw [if_pos ⟨rfl,by omega⟩];omega
 ·have:=h.hb s;omega
 ·exact .inr ⟨rfl,B.ext.vr.trans h.vr,B.ext.pl.trans h.pl,by rcases B.tr with e | e;exact e;exact e.trans h.tr,fun x hx=>B.ext.tk (h.tk x hx),h.ne,h.hl,fun x=>by rw [B.hd];exact h.hb x,fun x hx=>by rw [B.hd];exact h.hr x hx⟩
structure GateQ (b n:Nat) (refs:List Nat) (F:List Nat) (w:World) (e:Ending) (w':World):Prop where
 ex:∃ (r:Nat) (code:Int) (K':KV) (F':List Nat),e=.returned (.tuple #[.int .u32 r,.int .i64 code])/\KerAt w' b K' F'/\Stp F w F' w'/\((code=0/\Blt n K' (refs++[r]))\/(code=9/\Blt n K' refs))
theorem zai5 (b n v:Nat) (K:KV) (F refs:List Nat) (w:World) (h:KerAt w b K F) (B:Blt n K refs) (hl:refs.length<=40) (hv:v<n) :
  Calls Tryz.prog 78 #[.pointer (some ⟨b,0,none⟩),.int .i64 v] w fun e w'=>GateQ b n refs F w e w':=by
 have hok:=h.ok;have hun:=h.uni;obtain ⟨T,q,hk,rfl⟩:=h;refine (var_live b v K T q w hk).mono ?_;rintro e w' hE;obtain ⟨r,code,K',T',q',rfl,hM,hk',hu,hs⟩:=hE.ex;have h':KerAt w' b K' (q'.all b):=⟨T',q',hk',rfl⟩;exact ⟨r,code,K',_,rfl,h',⟨hu,hs⟩,B.op hl (hM.opr hok hun h'.ok (by rw [B.vr];exact hv))⟩
theorem zaf5 (b n op f g:Nat) (K:KV) (F refs:List Nat) (w:World) (h:KerAt w b K F) (B:Blt n K refs) (hl:refs.length<=40) (ho:op<=15) (hf:f∈refs) (hg:g∈refs) :
  Calls Tryz.prog 92 #[.pointer (some ⟨b,0,none⟩),.int .u8 op,.int .u32 f,.int .u32 g] w fun e w'=>GateQ b n refs F w e w':=by
 obtain ⟨T,q,hk,rfl⟩:=h;refine (binary_live b op f g K T q w hk ho (B.tk f hf) (B.tk g hg)).mono ?_;rintro e w' hE;obtain ⟨r,code,K',T',q',rfl,hM,hk',hu,hs⟩:=hE.ex;exact ⟨r,code,K',_,rfl,⟨T',q',hk',rfl⟩,⟨hu,hs⟩,B.op hl hM⟩
def RoomN (K:KV) (l n:Nat):Prop:=∀ (C:List CrV) (N:List (Nat × Nat)),CrAll K l (K.order.getD l 0) (K.order.getD (l+1) 0) C->FrN K (K.order.getD l 0) (C.flatMap CrV.qs) N->n+2=K.A.used+N.length
def FreeL (K:KV) (l:Nat):Prop:=∀ r,¬ K.Cross (K.order.getD l 0) (K.order.getD (l+1) 0) r
theorem CrAll.free {K:KV} {l:Nat} (h:FreeL K l):CrAll K l (K.order.getD l 0) (K.order.getD (l+1) 0) []:=⟨by simp,by simp,fun r hr=>absurd hr (h r)⟩
theorem RoomN.free {K:KV} {l n:Nat} (h:RoomN K l n) (hf:FreeL K l):n+2=K.A.used:=by
 have:=h [] [] (CrAll.free hf) (FrN.nil K _)
 simpa using this
theorem room_at (b l:Nat) (K:KV) (F:List Nat) (w:World) (h:KerAt w b K F) (hl:l+2<=K.vars) :
  Calls Tryz.prog 22 #[.pointer (some ⟨b,0,none⟩),.int .i64 l] w fun e w'=>∃ n:Nat,e=.returned (.tuple #[.int .i64 n,.int .i64 ((K.A.places:Int)-2),.int .i64 0])/\Upd [] w w'/\RoomN K l n:=by
 obtain ⟨T,q,hk,rfl⟩:=h;refine (swroom_spec b l K T q w hk hl).mono ?_;rintro e w' hE;obtain ⟨n,rfl,hu',hn⟩:=hE.ex;exact ⟨n,rfl,hu',hn⟩
def ExL (l:Nat) (K:KV) (code:Int) (K':KV):Prop :=
 (code=9/\K'=K/\∀ n,RoomN K l n->(K.A.places:Int)-2<n) \/
 (code=0/\(∃ K1,Exch K l K1/\(FreeL K l->K1=K.swapK l)/\K'=K1.addT l)/\∀ n,RoomN K l n->(n:Int)<=(K.A.places:Int)-2)
theorem zak5 (b l:Nat) (K:KV) (F:List Nat) (w:World) (h:KerAt w b K F) (hl:l+2<=K.vars) (ht:K.trail.length<=1000000) :
  Calls Tryz.prog 29 #[.pointer (some ⟨b,0,none⟩),.int .i64 l] w fun e w'=>∃ code:Int,e=.returned (.int .i64 code)/\ExR b F (ExL l K) w code w':=by
 have hu2:=h.ok.wf.ok.us;obtain ⟨T,q,hk,rfl⟩:=h;refine (exchange_spec b l K T q w hk ht).mono ?_;rintro e w' hE;obtain ⟨code,K',T',q',rfl,hk',hu',hs',hc⟩:=hE.ex
 rcases hc with ⟨_,h1,_⟩ | ⟨n,hn,h2,C,N,CA,FN,hc⟩
 ·omega
 ·obtain rfl:n=l:=by omega
  refine ⟨code,rfl,K',_,⟨T',q',hk',rfl⟩,hu',hs',?_⟩
  rcases hc with ⟨rfl,h3,rfl⟩ | ⟨rfl,h3,K1,X,hfree,rfl⟩
  ·exact .inl ⟨rfl,rfl,fun m hm=>by have:=hm C N CA FN;omega⟩
  ·refine .inr ⟨rfl,⟨K1,X,fun hf=>hfree ?_,rfl⟩,fun m hm=>by have:=hm C N CA FN;omega⟩
   cases C with
   | nil=>rfl
   | cons c C=>exact absurd (CA.ok c (by simp)).cr (hf _)
theorem try_exl (b l:Nat) (K:KV) (F:List Nat) (w:World) (h:KerAt w b K F) (hl:l+2<=K.vars) (ht:K.trail.length<=1000000) :
  Calls Tryz.prog 20 #[.pointer (some ⟨b,0,none⟩),.int .i64 l] w fun e w'=>TryQ b l K F (ExL l K) w e w' :=
 try_spec b l K F (ExL l K) w h fun z hz=>zak5 b l K F z hz hl ht
structure GatesAt (w:World) (a:Option Addr) (n:Nat):Prop where
 mx:n<=maxLen
 at_:∀ i,i<n->∃ (x:Addr) (op:Nat) (A B:Int),a=some x/\op<=255/\w.cell? (x.add (i*3))=some (.int .u8 op)/\w.cell? ((x.add (i*3)).add 1)=some (.int .i64 A)/\w.cell? ((x.add (i*3)).add 2)=some (.int .i64 B)
theorem GatesAt.keep0 {w w':World} {a:Option Addr} {n:Nat} (h:GatesAt w a n) (u:Upd [] w w'):GatesAt w' a n :=
 ⟨h.mx,fun i hi=>by obtain ⟨x,op,A,B,e,h0,h1,h2,h3⟩:=h.at_ i hi;exact ⟨x,op,A,B,e,h0,u.cell0 h1,u.cell0 h2,u.cell0 h3⟩⟩
theorem zab5 {l:List Nat} {j:Nat} (h:j<l.length):l.getD j 0∈l:=by
 rw [List.getD_eq_getElem?_getD,List.getElem?_eq_getElem h];exact List.getElem_mem h
structure zad5 (b n:Nat) (refs F:List Nat) (w5:World) (s8 s12:Value) (wx:World):Prop where
 ex:∃ (r:Nat) (code:Int) (K':KV) (F':List Nat),s8=.int .i64 code/\s12=.int .u32 r/\KerAt wx b K' F'/\Stp F w5 F' wx/\((code=0/\Blt n K' (refs++[r]))\/(code=9/\Blt n K' refs))
structure zal5 (n:Nat) (w:World) (e:Ending) (w':World):Prop where
 ex:∃ (b:Nat) (K:KV) (F refs:List Nat) (v:Value),e=.returned (.tuple #[.pointer (some ⟨b,0,none⟩),v,.bool true])/\KerAt w' b K F/\Blt n K refs/\w'.ownsRow w.heap.size 77 1 v refs.length (flatRefs refs)/\(∀ k,v.ownBlock=some k->k∉F)/\(∀ k,k∈F->w.heap.size<=k)/\Upd [] w w'
theorem built_spec (n:Nat) (ga:Option Addr) (gn gc:Nat) (w:World) (hn1:1≤n) (hn:n≤64) (hG:GatesAt w ga gn) (hgn:gn≤40) :
    Calls Tryz.prog 41 #[.int .i64 n,.slice ga gn gc] w fun e w'=>zal5 n w e w':=by
  obtain ⟨ti,hi2,hz2,hs2,hb2⟩:=info_parts Tryz.infoRefS;have HI:=Lib.hid (And.intro hi2 (And.intro hz2 (And.intro hs2 hb2)));have HG:=Lib.hid hG;clear hG hi2 hz2 hs2 hb2
  go_enter Tryz.func41,Tryz.ntmps41
  go_wp2_with fail;refine (knew_spec n 8192 w hn1 hn (by omega) (by omega)).mono ?_;rintro e w1 ⟨b,T,q,rfl,hK1,hu1,hs1⟩;have HK1:=Lib.hid (And.intro hK1 (And.intro hu1 hs1));have hrow:=heap_alloc_new w1 (.cells #[.int .u32 (1:Nat)] 77 (0,0));have hux:Upd [] w1 (w1.alloc (.cells #[.int .u32 (1:Nat)] 77 (0,0))):=(Upd.refl _ _).alloc _
  have HST:Hid (KerAt (w1.alloc (.cells #[.int .u32 (1:Nat)] 77 (0,0))) b (KV.new n 8192) (q.all b)∧Stp [] w (q.all b) (w1.alloc (.cells #[.int .u32 (1:Nat)] 77 (0,0))) ∧
      (w1.alloc (.cells #[.int .u32 (1:Nat)] 77 (0,0))).ownsRow w.heap.size 77 1 (.slice (some ⟨w1.heap.size,0,none⟩) 1 1) 1 (flatRefs [1])∧w1.heap.size∉q.all b) :=
    ⟨⟨T,q,hK1.upd hux (by simp),rfl⟩,⟨hu1.trans hux,hs1⟩,⟨rfl,.inr ⟨_,1,_,rfl,hu1.size,hrow,Nat.le_refl _,by unfold maxLen; omega,rfl,rfl⟩⟩,fun hm=>by have:=hK1.mem.lt _ hm; omega⟩
  clear hK1 hu1 hs1 hrow hux;go_wp2_with fail
  go_loopg [9,27] gn (fun g s9 s27 wr=>∃ (i:Nat) (K:KV) (F refs:List Nat),gn - i=g∧i≤gn∧s27=.int .i64 i∧KerAt wr b K F∧Stp [] w F wr∧Blt n K refs∧refs.length≤i + 1∧wr.ownsRow w.heap.size 77 1 s9 refs.length (flatRefs refs)∧∀ k,s9.ownBlock=some k→k∉F)
  case atStart=>exact ⟨0,_,_,[1],by omega,by omega,rfl,HST.out.1,HST.out.2.1,Blt.new hn1 hn,by simp,HST.out.2.2.1,fun k hk=>(show w1.heap.size=k by simpa [Value.ownBlock] using hk) ▸ HST.out.2.2.2⟩
  case round =>
    obtain ⟨i,K,F,refs,rfl,hi,rfl,hK,hS,hB,hrl,hrow,hdj⟩:=hrel;obtain ⟨oa,oc,hov,_⟩:=row_nil_len hrow;subst hov;obtain ⟨gr,rfl⟩:=row_some hrow hB.ne
    by_cases hlt:i < gn
    · obtain ⟨x,op,A,B,hx,ho,c0,c1,c2⟩:=(HG.out.keep0 hS.up).at_ i hlt
      subst hx;rw [Addr.add_succ' _ 0] at c1;rw [Addr.add_succ' _ 1] at c2
      simp only [Nat.zero_add,Nat.reduceAdd] at c1 c2
      have hil:(i:Int) < (gn:Int):=by omega
      have hbx:=heap_alloc_new wr (.cells #[.int .u8 op,.int .i64 A,.int .i64 B] 184 (0,0));have hu5:Upd [] wr (wr.alloc (.cells #[.int .u8 op,.int .i64 A,.int .i64 B] 184 (0,0))):=(Upd.refl _ _).alloc _;obtain ⟨w5,hw5⟩ : ∃ w5,wr.alloc (.cells #[.int .u8 op,.int .i64 A,.int .i64 B] 184 (0,0))=w5:=⟨_,rfl⟩;rw [hw5] at hbx hu5;have HW5:=Lib.hid hw5;have b0:=cell_at (j:=0) hbx rfl;have b1:=cell_at (j:=1) hbx rfl;have b2:=cell_at (j:=2) hbx rfl;have HX:=Lib.hid (And.intro (hK.upd hu5 (by simp)) (And.intro (hS.trans (Stp.of0 hu5)) (And.intro hB (And.intro (row_keep hrow fun k hk=>hu5.block k (hrow.lt k hk).2 (by simp)) hdj))));have HBX:=Lib.hid (And.intro hbx (fun k (hk:(Value.slice (some ⟨gr,0,none⟩) refs.length oc).ownBlock=some k)=>Nat.lt_of_lt_of_le (hrow.lt k hk).2 hu5.size));have HNF:Hid (wr.heap.size∉F∧True):=⟨fun hm=>by have:=hK.lt _ hm; omega,trivial⟩
      have hr40:refs.length≤40:=by omega
      have hr0:=hB.ne;clear hK hS hB hrow hdj hbx hu5 hw5;go_upto_region 9 with fail;rw [HW5.out];obtain ⟨bb,hbb⟩ : ∃ bb,decide (15 < op)=bb:=⟨_,rfl⟩
      have hbi:decide ((15:Int) < (op:Int))=bb:=by rw [← hbb]; simp; omega
      have HBB:=Lib.hid hbb;go_upto_if 33 with fail
      (try rw [hbb])
      (try rw [hbi])
      clear hbb hbi
      go_cut [8,12] from 34 to 65 (fun s8 s12 wx=>zad5 b n refs F w5 s8 s12 wx)
      case first =>
        cases bb with
        | true =>
          go_wp2_with fail;refine (mod15_spec A n w5 (by omega) (by omega)).mono ?_;rintro e w6 ⟨k,hk,rfl,hw6⟩;have HW6:=Lib.hid hw6;have HKN:=Lib.hid hk;clear hw6 hk;go_wp2_with fail;rw [HW6.out];refine (zai5 b n k K F refs w5 HX.out.1 HX.out.2.2.1 hr40 HKN.out).mono ?_;rintro e w7 hE;obtain ⟨r,code,K',F',rfl,hK',hs',ho'⟩:=hE.ex;have HQ:Hid (zad5 b n refs F w5 (.int .i64 code) (.int .u32 r) w7):=⟨r,code,K',F',rfl,rfl,hK',hs',ho'⟩;clear hE hK' hs' ho';go_wp2_with fail;go_meet;exact HQ.out
        | false =>
          have hop:op≤15:=by have:=HBB.out; simp at this; omega
          obtain ⟨kA,hkA,hmA⟩:=mod15_all A refs.length hr0 (by omega);obtain ⟨kB,hkB,hmB⟩:=mod15_all B refs.length hr0 (by omega);have HMA:=Lib.hid hmA;have HMB:=Lib.hid hmB;obtain ⟨fA,hfA⟩ : ∃ fA,refs.getD kA 0=fA:=⟨_,rfl⟩;obtain ⟨fB,hfB⟩ : ∃ fB,refs.getD kB 0=fB:=⟨_,rfl⟩;have HFA:Hid (fA∈refs∧True):=⟨hfA ▸ zab5 hkA,trivial⟩;have HFB:Hid (fB∈refs∧True):=⟨hfB ▸ zab5 hkB,trivial⟩
          have hkAi:(kA:Int) < (refs.length:Int):=by omega
          have hkBi:(kB:Int) < (refs.length:Int):=by omega
          have HSE:Hid (∀ z,Upd F w5 z→(z.cell? ⟨wr.heap.size,0,none⟩=some (.int .u8 op)∧z.cell? ⟨wr.heap.size,1,none⟩=some (.int .i64 A)∧z.cell? ⟨wr.heap.size,2,none⟩=some (.int .i64 B))∧z.cell? ⟨gr,kA,none⟩=some (.int .u32 fA)∧z.cell? ⟨gr,kB,none⟩=some (.int .u32 fB)):=fun z u =>
            ⟨⟨(u.cell (heap_lt HBX.out.1) (HNF.out.1)).trans b0,(u.cell (heap_lt HBX.out.1) (HNF.out.1)).trans b1,(u.cell (heap_lt HBX.out.1) (HNF.out.1)).trans b2⟩,
             hfA ▸ (u.cell (HBX.out.2 gr rfl) (HX.out.2.2.2.2 gr rfl)).trans (row_cell HX.out.2.2.2.1 (flatRefs_get (by rw [List.getD_eq_getElem?_getD,List.getElem?_eq_getElem hkA]; rfl))),
             hfB ▸ (u.cell (HBX.out.2 gr rfl) (HX.out.2.2.2.2 gr rfl)).trans (row_cell HX.out.2.2.2.1 (flatRefs_get (by rw [List.getD_eq_getElem?_getD,List.getElem?_eq_getElem hkB]; rfl)))⟩
          have HGB:Hid (∀ z,Upd [] w5 z→Calls Tryz.prog 92 #[.pointer (some ⟨b,0,none⟩),.int .u8 op,.int .u32 fA,.int .u32 fB] z fun e w'=>∃ (r:Nat) (code:Int),e=.returned (.tuple #[.int .u32 r,.int .i64 code])∧zad5 b n refs F w5 (.int .i64 code) (.int .u32 r) w'∧Upd F w5 w'):=fun z u=>by
            refine (zaf5 b n op fA fB K F refs z (HX.out.1.upd u (by simp)) HX.out.2.2.1 hr40 hop HFA.out.1 HFB.out.1).mono ?_;rintro e w7 hE;obtain ⟨r,code,K',F',rfl,hK',hs',ho'⟩:=hE.ex;exact ⟨r,code,rfl,⟨r,code,K',F',rfl,rfl,hK',(Stp.of0 u).trans hs',ho'⟩,((Stp.of0 u:Stp F w5 F z).trans hs').up⟩
          clear b0 b1 b2 hop hfA hfB hkA hkB hmA hmB;go_upto_region 11 with fail;refine wp_region_until (fun z=>(z.cell? ⟨wr.heap.size,0,none⟩=some (.int .u8 op)∧z.cell? ⟨wr.heap.size,1,none⟩=some (.int .i64 A)∧z.cell? ⟨wr.heap.size,2,none⟩=some (.int .i64 B))∧z.cell? ⟨gr,kA,none⟩=some (.int .u32 fA)∧z.cell? ⟨gr,kB,none⟩=some (.int .u32 fB)) (fun _=>True) [] (by kernel_rfl) ?_;have hS:=HSE.out _ (Upd.refl _ _).drew;have hE:True:=trivial;refine wpAnyU_takeS (i:=0) (v:=?v1) rfl (by kernel_rfl) (by kernel_rfl) (by kernel_rfl) (by kernel_rfl) (fun _ _ _ h=>h) (Or.inl ⟨by rfl,?hy1⟩) hS (fun _=>hE) ?rest1
          case hy1=>(intro x hSx; (try dsimp only at hSx); go_simp; try with_reducible rfl)
          (try simp only [Act.put,List.setIfInBounds_toArray])
          refine wpAnyU_takeS (i:=1) (v:=?v2) rfl (by kernel_rfl) (by kernel_rfl) (by kernel_rfl) (by kernel_rfl) (fun _ _ _ h=>h) (Or.inl ⟨by rfl,?hy2⟩) hS (fun _=>hE) ?rest2
          case hy2=>(intro x hSx; (try dsimp only at hSx); go_simp; try with_reducible rfl)
          (try simp only [Act.put])
          refine wpAnyU_takeS (i:=2) (v:=?v3) rfl (by kernel_rfl) (by kernel_rfl) (by kernel_rfl) (by kernel_rfl) (fun _ _ _ h=>h) (Or.inl ⟨by rfl,?hy3⟩) hS (fun _=>hE) ?rest3
          case hy3=>(intro x hSx; (try dsimp only at hSx); go_simp; try with_reducible rfl)
          (try simp only [Act.put])
          refine wpAnyU_takeS (i:=3) (v:=?v4) rfl (by kernel_rfl) (by kernel_rfl) (by kernel_rfl) (by kernel_rfl) (fun _ _ _ h=>h) (Or.inl ⟨by rfl,?hy4⟩) hS (fun _=>hE) ?rest4
          case hy4=>(intro x hSx; (try dsimp only at hSx); go_simp; try with_reducible rfl)
          (try simp only [Act.put])
          refine wpAnyU_takeS (i:=4) (v:=?v5) rfl (by kernel_rfl) (by kernel_rfl) (by kernel_rfl) (by kernel_rfl) (fun _ _ _ h=>h) (Or.inl ⟨by rfl,?hy5⟩) hS (fun _=>hE) ?rest5
          case hy5=>(intro x hSx; (try dsimp only at hSx); go_simp; try with_reducible rfl)
          (try simp only [Act.put])
          refine wpAnyU_takeS (i:=5) (v:=?v6) rfl (by kernel_rfl) (by kernel_rfl) (by kernel_rfl) (by kernel_rfl) (fun _ _ _ h=>h) (Or.inl ⟨by rfl,?hy6⟩) hS (fun _=>hE) ?rest6
          case hy6=>(intro x hSx; (try dsimp only at hSx); go_simp; try with_reducible rfl)
          (try simp only [Act.put])
          refine wpAnyU_takeS (i:=6) (v:=?v7) rfl (by kernel_rfl) (by kernel_rfl) (by kernel_rfl) (by kernel_rfl) (fun _ _ _ h=>h) (Or.inl ⟨by rfl,?hy7⟩) hS (fun _=>hE) ?rest7
          case hy7=>(intro x hSx; (try dsimp only at hSx); go_simp; try with_reducible rfl)
          (try simp only [Act.put])
          refine wpAnyU_takeS (i:=7) (v:=?v8) rfl (by kernel_rfl) (by kernel_rfl) (by kernel_rfl) (by kernel_rfl) (fun _ _ _ h=>h) (Or.inl ⟨by rfl,?hy8⟩) hS (fun _=>hE) ?rest8
          case hy8=>(intro x hSx; (try dsimp only at hSx); go_simp; try with_reducible rfl)
          (try simp only [Act.put])
          refine wpAnyU_takeS (i:=11) (v:=?v9) rfl (by kernel_rfl) (by kernel_rfl) (by kernel_rfl) (by kernel_rfl) (fun _ _ _ h=>h) (Or.inl ⟨by rfl,?hy9⟩) hS (fun _=>hE) ?rest9
          case hy9=>(intro x hSx; (try dsimp only at hSx); go_simp; try with_reducible rfl)
          (try simp only [Act.put])
          refine wpAnyU_takeS (i:=12) (v:=?v10) rfl (by kernel_rfl) (by kernel_rfl) (by kernel_rfl) (by kernel_rfl) (fun _ _ _ h=>h) (Or.inl ⟨by rfl,?hy10⟩) hS (fun _=>hE) ?rest10
          case hy10=>(intro x hSx; (try dsimp only at hSx); go_simp; try with_reducible rfl)
          (try simp only [Act.put])
          refine wpAnyU_takeS (i:=13) (v:=?v11) rfl (by kernel_rfl) (by kernel_rfl) (by kernel_rfl) (by kernel_rfl) (fun _ _ _ h=>h) (Or.inl ⟨by rfl,?hy11⟩) hS (fun _=>hE) ?rest11
          case hy11=>(intro x hSx; (try dsimp only at hSx); go_simp; try with_reducible rfl)
          (try simp only [Act.put])
          refine wpAnyU_takeS (i:=14) (v:=?v12) rfl (by kernel_rfl) (by kernel_rfl) (by kernel_rfl) (by kernel_rfl) (fun _ _ _ h=>h) (Or.inl ⟨by rfl,?hy12⟩) hS (fun _=>hE) ?rest12
          case hy12=>(intro x hSx; (try dsimp only at hSx); go_simp; try with_reducible rfl)
          (try simp only [Act.put])
          refine wpAnyU_takeS (i:=15) (v:=?v13) rfl (by kernel_rfl) (by kernel_rfl) (by kernel_rfl) (by kernel_rfl) (fun _ _ _ h=>h) (Or.inl ⟨by rfl,?hy13⟩) hS (fun _=>hE) ?rest13
          case hy13=>(intro x hSx; (try dsimp only at hSx); go_simp; try with_reducible rfl)
          (try simp only [Act.put])
          refine wpAnyU_ready (rs:=[8]) (by kernel_rfl) (by simp) ?_;refine AllReadyU.cons rfl (fun Kx hK=>?_) ?_
          rotate_left
          exact AllReadyU.nil
          go_simp
          refine (HMA.out _).mono ?_;rintro e w6 ⟨rfl,rfl⟩;go_wp2_with fail;refine hK.out _ _ ⟨HSE.out _ (Upd.refl _ _).drew,fun _=>trivial⟩ (fun hHeld=>?_);clear hK Kx;obtain ⟨hS,hE⟩:=hHeld;have hE:=hE (by kernel_rfl)
          (try simp only [Act.put,List.setIfInBounds_toArray,List.set_cons_zero,List.set_cons_succ])
          refine wpAnyU_takeS (i:=9) (v:=?v14) rfl (by kernel_rfl) (by kernel_rfl) (by kernel_rfl) (by kernel_rfl) (fun _ _ _ h=>h) (Or.inl ⟨by rfl,?hy14⟩) hS (fun _=>hE) ?rest14
          case hy14=>(intro x hSx; (try dsimp only at hSx); go_simp; try with_reducible rfl)
          (try simp only [Act.put,List.setIfInBounds_toArray])
          refine wpAnyU_takeS (i:=10) (v:=?v15) rfl (by kernel_rfl) (by kernel_rfl) (by kernel_rfl) (by kernel_rfl) (fun _ _ _ h=>h) (Or.inl ⟨by rfl,?hy15⟩) hS (fun _=>hE) ?rest15
          case hy15=>(intro x hSx; (try dsimp only at hSx); go_simp; try with_reducible rfl)
          (try simp only [Act.put])
          refine wpAnyU_ready (rs:=[16]) (by kernel_rfl) (by simp) ?_;refine AllReadyU.cons rfl (fun Kx hK=>?_) ?_
          rotate_left
          exact AllReadyU.nil
          go_simp
          refine (HMB.out _).mono ?_;rintro e w6 ⟨rfl,rfl⟩;go_wp2_with fail;refine hK.out _ _ ⟨HSE.out _ (Upd.refl _ _).drew,fun _=>trivial⟩ (fun hHeld=>?_);clear hK Kx;obtain ⟨hS,hE⟩:=hHeld;have hE:=hE (by kernel_rfl)
          (try simp only [Act.put,List.setIfInBounds_toArray,List.set_cons_zero,List.set_cons_succ])
          refine wpAnyU_takeS (i:=17) (v:=?v16) rfl (by kernel_rfl) (by kernel_rfl) (by kernel_rfl) (by kernel_rfl) (fun _ _ _ h=>h) (Or.inl ⟨by rfl,?hy16⟩) hS (fun _=>hE) ?rest16
          case hy16=>(intro x hSx; (try dsimp only at hSx); go_simp; try with_reducible rfl)
          (try simp only [Act.put,List.setIfInBounds_toArray])
          refine wpAnyU_takeS (i:=18) (v:=?v17) rfl (by kernel_rfl) (by kernel_rfl) (by kernel_rfl) (by kernel_rfl) (fun _ _ _ h=>h) (Or.inl ⟨by rfl,?hy17⟩) hS (fun _=>hE) ?rest17
          case hy17=>(intro x hSx; (try dsimp only at hSx); go_simp; try with_reducible rfl)
          (try simp only [Act.put])
          refine wpAnyU_ready (rs:=[19]) (by kernel_rfl) (by simp) ?_;refine AllReadyU.cons rfl (fun Kx hK=>?_) ?_
          rotate_left
          exact AllReadyU.nil
          go_simp
          refine (HGB.out _ (Upd.refl _ _).drew).mono ?_;rintro e w7 ⟨r,code,rfl,hq,hu⟩;have HQ:=Lib.hid hq;have HUQ:=Lib.hid hu;clear hq hu;go_wp2_with fail;refine hK.out _ _ ⟨HSE.out _ HUQ.out,fun _=>trivial⟩ (fun hHeld=>?_);clear hK Kx;obtain ⟨hS,hE⟩:=hHeld;have hE:=hE (by kernel_rfl)
          (try simp only [Act.put,List.setIfInBounds_toArray,List.set_cons_zero,List.set_cons_succ])
          refine wpAnyU_takeS (i:=20) (v:=?v18) rfl (by kernel_rfl) (by kernel_rfl) (by kernel_rfl) (by kernel_rfl) (fun _ _ _ h=>h) (Or.inl ⟨by rfl,?hy18⟩) hS (fun _=>hE) ?rest18
          case hy18=>(intro x hSx; (try dsimp only at hSx); go_simp; try with_reducible rfl)
          (try simp only [Act.put,List.setIfInBounds_toArray])
          refine wpAnyU_takeS (i:=21) (v:=?v19) rfl (by kernel_rfl) (by kernel_rfl) (by kernel_rfl) (by kernel_rfl) (fun _ _ _ h=>h) (Or.inl ⟨by rfl,?hy19⟩) hS (fun _=>hE) ?rest19
          case hy19=>(intro x hSx; (try dsimp only at hSx); go_simp; try with_reducible rfl)
          (try simp only [Act.put])
          refine wpAnyU_takeS (i:=22) (v:=?v20) rfl (by kernel_rfl) (by kernel_rfl) (by kernel_rfl) (by kernel_rfl) (fun _ _ _ h=>h) (Or.inl ⟨by rfl,?hy20⟩) hS (fun _=>hE) ?rest20
          case hy20=>(intro x hSx; (try dsimp only at hSx); go_simp; try with_reducible rfl)
          (try simp only [Act.put])
          refine wpAnyU_takeS (i:=23) (v:=?v21) rfl (by kernel_rfl) (by kernel_rfl) (by kernel_rfl) (by kernel_rfl) (fun _ _ _ h=>h) (Or.inl ⟨by rfl,?hy21⟩) hS (fun _=>hE) ?rest21
          case hy21=>(intro x hSx; (try dsimp only at hSx); go_simp; try with_reducible rfl)
          (try simp only [Act.put])
          refine wpAnyU_takeS (i:=24) (v:=?v22) rfl (by kernel_rfl) (by kernel_rfl) (by kernel_rfl) (by kernel_rfl) (fun _ _ _ h=>h) (Or.inl ⟨by rfl,?hy22⟩) hS (fun _=>hE) ?rest22
          case hy22=>(intro x hSx; (try dsimp only at hSx); go_simp; try with_reducible rfl)
          (try simp only [Act.put])
          refine wpAnyU_done (by kernel_rfl) ?_ _;clear hS hE
          (try go_simp)
          go_wp2_with fail;go_meet;exact HQ.out
      case rest =>
        obtain ⟨r,code,K',F',rfl,rfl,hK',hs',ho'⟩:=hcut.ex
        have HROW:Hid (wc.ownsRow w.heap.size 77 1 (.slice (some ⟨gr,0,none⟩) refs.length oc) refs.length (flatRefs refs)):=row_keep HX.out.2.2.2.1 fun k hk=>hs'.up.block k (HX.out.2.2.2.1.lt k hk).2 (HX.out.2.2.2.2 k hk)
        have HNO:Hid (∀ k,(Value.slice (some ⟨gr,0,none⟩) refs.length oc).ownBlock=some k→k∉F'):=fun k hk hm=>by
          rcases hs'.sub k hm with h | h
          · exact HX.out.2.2.2.2 k hk h
          · have:=(HX.out.2.2.2.1.lt k hk).2; omega
        have HS':Hid (Stp [] w F' wc):=HX.out.2.1.trans hs';have HK':=Lib.hid hK';clear hcut hK' hs' b0 b1 b2
        rcases ho' with ⟨rfl,hB'⟩ | ⟨rfl,hB'⟩
        · have HB':=Lib.hid hB'
          have HC2:Hid (∀ u,u∈[Value.int .u32 r]→u.oneCell'=true):=by intro u hu; simp at hu; subst hu; rfl
          have hbs:w.heap.size≤(wc.alloc (.cells #[.int .u32 r] 77 (0,0))).heap.size:=by rw [World.size_alloc]; have:=HS'.out.up.size; omega
          clear hB'
          go_wp2_with (at_builtin; go_must (refine wpList_append_lies _ rfl (.tmp 74) (.tmp 76) 42 rfl w.heap.size 77 ti _ 1 4 Tryz.underlying42 HI.out.1 HI.out.2.1 HI.out.2.2.1 HI.out.2.2.2 (by rfl) (by decide) _ refs.length (flatRefs refs) rfl (HROW.out.alloc _) ⟨wc.heap.size,0,none⟩ 1 1 [.int .u32 r] rfl rfl ?c1 HC2.out (by omega) (by unfold maxLen; omega) (by omega) hbs _ rfl ?_))
          case c1=>exact World.news_of_block (heap_alloc_new wc (.cells #[.int .u32 r] 77 (0,0)))
          intro g5 cap w6 hown hgr hat hlt5
          have HZ:Hid (KerAt w6 b K' F'∧Stp [] w F' w6∧w6.ownsRow w.heap.size 77 1 (.slice (some ⟨g5,0,none⟩) (refs.length + 1) cap) (refs ++ [r]).length (flatRefs (refs ++ [r]))∧∀ k,(Value.slice (some ⟨g5,0,none⟩) (refs.length + 1) cap).ownBlock=some k→k∉F'):=by
            have u5:Upd (Value.slice (some ⟨gr,0,none⟩) refs.length oc).ownBlock.toList wc w6:=Upd.grown ((Upd.refl _ wc).alloc _) hgr (fun k hk=>.inl (by simp [hk]));refine ⟨HK'.out.upd u5 (fun k hk hm=>HNO.out k (by simpa using hm) hk),⟨HS'.out.up.then u5 fun k hk=>.inr (HX.out.2.2.2.1.lt k (by simpa using hk)).1,HS'.out.sub⟩,?_,fun k hk hm=>?_⟩
            · rw [List.length_append,List.length_singleton,show flatRefs (refs ++ [r])=flatRefs refs ++ [.int .u32 r] by simp [flatRefs]]
              exact hown
            · have hk':g5=k:=by simpa [Value.ownBlock] using hk
              subst hk'
              rcases hat with h | h
              · exact HNO.out _ h hm
              · have:=HK'.out.lt _ hm; omega
          clear hown hgr hat hlt5 hbs;go_wp2_with fail
          go_roundg (gn - (i + 1))
          case measure=>omega
          case rel=>exact ⟨i + 1,K',F',refs ++ [r],rfl,by omega,by simp,HZ.out.1,HZ.out.2.1,HB'.out,by simp; omega,by simpa using HZ.out.2.2.1,HZ.out.2.2.2⟩
        · have HB':=Lib.hid hB'
          clear hB';go_wp2_with fail
          go_roundg (gn - (i + 1))
          case measure=>omega
          case rel=>exact ⟨i + 1,K',F',refs,rfl,by omega,by simp,HK'.out,HS'.out,HB'.out,by omega,HROW.out,HNO.out⟩
    · obtain rfl:i=gn:=by omega
      have hil:¬ ((i:Int) < (i:Int)):=by omega
      have HE:Hid (zal5 n w (.returned (.tuple #[.pointer (some ⟨b,0,none⟩),.slice (some ⟨gr,0,none⟩) refs.length oc,.bool true])) wr) :=
        ⟨b,K,F,refs,_,rfl,hK,hB,hrow,hdj,fun k hk=>(hS.sub k hk).elim (fun h=>nomatch h) id,hS.up⟩
      clear hK hS hB hrow hdj;go_wp2_with fail;refine bodyPost_ret (v:=.tuple #[.pointer (some ⟨b,0,none⟩),.slice (some ⟨gr,0,none⟩) refs.length oc,.bool true]) (by simp [results,Tryz.results41,go_sem]) rfl HE.out
theorem zae5 (tb:Nat) (F:List Nat) (v:Nat) (T:List DM) (D:DM) (w:World) (h:TabAt w tb T F) (hv:T[v]?=some D) :
  Calls Tryz.prog 111 #[.pointer (some ⟨tb,0,none⟩),.int .i64 v] w fun e w'=>e=.returned (.tuple #[.int .i64 (Maps.size D),.int .i64 0])/\Upd [] w w':=by
 have hvl:=(List.getElem?_eq_some_iff.1 hv).1;have hbd:=h.bd;obtain ⟨g,cap,m,hf1,hf2,hf3,hc0,hc1,ho⟩:=h.cells hv;have hl:=h.lt;have HT:=Lib.hid h;have HO:=Lib.hid ho
 have hi:(v:Int)<(T.length:Int):=by omega
 clear h ho hl hv
 go_enter Tryz.func111,Tryz.ntmps111
 go_wp2_with fail;refine (tcheck_ok tb F v T _ HT.out (by omega) (by omega)).mono ?_;rintro e w1 ⟨rfl,rfl⟩;go_wp2_with fail;rw [World.ownsMap.len HO.out Tryz.underlying186 3];go_wp2_with fail;go_ret2;exact ⟨rfl,Upd.refl _ _⟩
theorem width_at (b v:Nat) (K:KV) (T:List DM) (q:KPtr) (D:DM) (w:World) (h:KerIn w b K T q) (hv:v<K.vars) (hT:T[v]?=some D) :
  Calls Tryz.prog 49 #[.pointer (some ⟨b,0,none⟩),.int .i64 v] w fun e w'=>e=.returned (.tuple #[.int .i64 (Maps.size D),.int .i64 0])/\Upd [] w w':=by
 have c1:w.cell? ⟨b,1,none⟩=some (.pointer (some ⟨q.t,0,none⟩)):=cell_at h.mem.blk rfl;have HV:=Lib.hid (variable_spec b v K T q w h.mem);rw [show K.isVar v=true by simp [KV.isVar,hv]] at HV;have HC:=Lib.hid (zae5 q.t q.FT v T D w h.mem.tab hT);clear h hT
 go_enter Tryz.func49,Tryz.ntmps49
 go_wp2_with fail;refine HV.out.mono ?_;rintro e w1 ⟨rfl,rfl⟩;go_wp2_with fail;refine HC.out.mono ?_;rintro e w2 ⟨rfl,hu⟩;have HU:=Lib.hid hu;clear hu;go_wp2_with fail;go_ret2;exact ⟨rfl,HU.out⟩
theorem zac5 {D:DM} {es:List (Lit × DM)} (e:D=.map es) {ks:List Lit} (hn:ks.Nodup) (h:∀ k,k∈ks->Maps.has D k=true):ks.length<=Maps.size D:=by
 subst e
 have hsub:ks ⊆ es.map (·.1):=by
  intro k hk
  have:=h k hk
  simp only [Maps.has,List.any_eq_true] at this
  obtain ⟨p,hp,hs⟩:=this;exact List.mem_map.2 ⟨p,hp,WideAt.sameKey_eq hs⟩
 have:=List.Nodup.length_le_of_subset hn hsub
 simpa [Maps.size] using this
def KV.nodesV (K:KV) (v:Nat):List Nat:=K.nodes.filter fun r=>decide (K.vI r=(v:Int))
theorem KV.mem_nodesV {K:KV} {v r:Nat}:r∈K.nodesV v↔2<=r/\K.A.tk r=true/\K.vI r=(v:Int):=by
 unfold KV.nodesV;rw [List.mem_filter,KV.mem_nodes,decide_eq_true_eq,and_assoc]
theorem TInv.sizeV {T:List DM} {K:KV} (h:TInv T K []) (hw:K.Wf []) {v:Nat} {D:DM} (hv:T[v]?=some D) (hc:Maps.Canon D) (ht:Tidy D):Maps.size D=(K.nodesV v).length:=by
 have hnd:(K.nodesV v).Nodup:=List.Pairwise.filter _ K.nodes_nodup
 have key:∀ r,r∈K.nodesV v->∃ p,2<=r/\K.A.list[r]?=some p/\p.taken=true/\p.var=(v:Int):=fun r hr=>by
  obtain ⟨h2,h3,h4⟩:=KV.mem_nodesV.1 hr;obtain ⟨p,hp,hpt⟩:=ArenaV.tk_iff.1 h3;rw [KV.vI_at hp] at h4;exact ⟨p,h2,hp,hpt,h4⟩
 let kf:Nat->Lit:=fun r=>match K.A.list[r]? with | some p=>nkp p | none=>nk 0 0 0
 have kfe:∀ r p,K.A.list[r]?=some p->kf r=nkp p:=fun r p hp=>by show (match K.A.list[r]? with | some p=>nkp p | none=>nk 0 0 0)=_;rw [hp]
 have hkn:((K.nodesV v).map kf).Nodup:=by
  refine List.pairwise_map.2 (List.Pairwise.imp_of_mem (fun {a b} ha hb hne e=>hne ?_) hnd);obtain ⟨p,h2,hp,hpt,_⟩:=key a ha;obtain ⟨c,h2',hc',hct,_⟩:=key b hb;rw [kfe a p hp,kfe b c hc'] at e;exact h.uniq hw h2 h2' hp hc' hpt hct (by simp) (by simp) e
 refine Nat.le_antisymm ?_ ?_
 ·have:=size_le_keys hc (ks:=(K.nodesV v).map kf) (fun k hk=>by
   obtain ⟨r,p,h2,hp,hpt,hpv,rfl,_⟩:=h.dom v D k hv hk
   exact List.mem_map.2 ⟨r,KV.mem_nodesV.2 ⟨h2,ArenaV.tk_iff.2 ⟨p,hp,hpt⟩,by rw [KV.vI_at hp];exact hpv⟩,kfe r p hp⟩) ht
  simpa using this
 ·obtain ⟨es,e,_⟩:=hc
  have:=zac5 e hkn (fun k hk=>by
   obtain ⟨r,hr,rfl⟩:=List.mem_map.1 hk;obtain ⟨p,h2,hp,hpt,hpv⟩:=key r hr;rw [kfe r p hp]
   exact (h.at_ r p D h2 hp hpt (by simp) (by rw [hpv];exact hv)).1)
  simpa using this
end Go.Proofs.YtfkopmhpppeheaaGreat
namespace Go.Proofs.YtfkopmhpppeheaaGreat
def swL (l j:Nat):Nat:=if j=l then l+1 else if j=l+1 then l else j
structure ExB (K:KV) (l:Nat) (K':KV):Prop where
 vr:K'.vars=K.vars
 pl:K'.A.places=K.A.places
 od:K'.order=turnL K.order l
 hd:∀ r,K'.hold r=K.hold r
 den:∀ r,K.A.tk r=true->K'.A.tk r=true->∀ z,K'.den r z=K.den r z
 uq:∀ r s,K.A.tk r=true->K'.A.tk s=true->(∀ z,K.den r z=K'.den s z)->r=s
theorem Exch.bare {K K1 K2:KV} {l:Nat} (h:Exch K l K1) (hk:K2.Ok) (hA:K2.A=K1.A) (hv:K2.vars=K1.vars) (ho:K2.order=K1.order) (hl:K2.level=K1.level) (hh:K2.holds=K1.holds):ExB K l K2:=by
 have e:K2.Ext K1:=⟨fun r p hp _=>by rw [<- hA];exact hp,by rw [hA],hv.symm,ho.symm,hl.symm⟩
 have d:∀ r,K2.A.tk r=true->∀ z,K1.den r z=K2.den r z:=fun r ht z=>e.den hk.wf z ht
 have t:∀ r,K2.A.tk r=K1.A.tk r:=fun r=>by rw [hA]
 refine ⟨hv.trans h.vr,by rw [hA];exact h.pl,ho.trans h.od,fun r=>?_,fun r t1 t2 z=>?_,fun r s t1 t2 hd=>?_⟩
 ·rw [<- h.hd r];unfold KV.hold;rw [hh]
 ·rw [<- d r t2];exact h.den r t1 (by rw [<- t];exact t2) z
 ·exact h.uq r s t1 (by rw [<- t];exact t2) fun z=>by rw [d s t2];exact hd z
structure XP (K:KV) (l:Nat) (K':KV):Prop where
 ok:K.Ok
 un:K.Uni
 ok':K'.Ok
 un':K'.Uni
 hl:l+2<=K.vars
 ex:ExB K l K'
theorem XP.sym {K K':KV} {l:Nat} (h:XP K l K'):XP K' l K:=by
 have hx:=h.ex;have ol:=h.ok.ord.pm.ol;have hl:=h.hl;refine ⟨h.ok',h.un',h.ok,h.un,by rw [hx.vr];exact hl,hx.vr.symm,hx.pl.symm,?_,fun r=>(hx.hd r).symm,fun r t1 t2 z=>(hx.den r t2 t1 z).symm,fun r s t1 t2 e=>(hx.uq s r t2 t1 fun z=>(e z).symm).symm⟩;have e:K'.order=turnL K.order l:=hx.od;rw [e];exact (turnL_turnL (o:=K.order) (l:=l) (by omega)).symm
theorem KV.Ok.held_tk {K:KV} (h:K.Ok) {r:Nat} (hr:0<K.hold r):K.A.tk r=true:=(h.wf.ht r hr).2
theorem XP.held {K K':KV} {l f:Nat} (h:XP K l K') (hf:0<K.hold f) (z:Nat->Bool):K'.den f z=K.den f z :=
 h.ex.den f (h.ok.held_tk hf) (h.ok'.held_tk (by rw [h.ex.hd];exact hf)) z
theorem XP.lev {K K':KV} {l v:Nat} (h:XP K l K') (hv:v<K.vars):K'.lev v=swL l (K.lev v):=by
 have pm:=h.ok.ord.pm;have pm':=h.ok'.ord.pm;have hl:=h.hl;have ol:=pm.ol;have h1:=pm.lo v hv
 have hsl:swL l (K.lev v)<K.vars:=by unfold swL;split <;> (try split) <;> omega
 have e:K'.order[swL l (K.lev v)]?=some v:=by
  have e:K'.order=turnL K.order l:=h.ex.od;have hat:=pm.order_at hv;rw [e,turnL_at (by omega)];unfold swL
  by_cases e1:K.lev v=l
  ·rw [if_pos e1,if_pos rfl,<- e1,h1.2]
  ·rw [if_neg e1]
   by_cases e2:K.lev v=l+1
   ·rw [if_pos e2,if_neg (by omega),if_pos rfl,<- e2,h1.2]
   ·rw [if_neg e2,if_neg e2,if_neg e1,hat]
 exact (pm'.at_order e).2
theorem XP.mix {K K':KV} {l m:Nat} (h:XP K l K') (hm:m≠l+1) (a z:Nat->Bool):K'.mix m a z=K.mix m a z:=by
 funext v
 simp only [KV.mix]
 have hvr:=h.ex.vr
 by_cases hv:v<K.vars
 ·have e:=h.lev hv
  have:(v<K'.vars/\K'.lev v<m)↔(v<K.vars/\K.lev v<m):=by
   rw [e,hvr];unfold swL;split
   ·omega
   ·split <;> omega
  simp only [this]
 ·rw [if_neg (by omega),if_neg (by omega)]
theorem KV.mix_next {K:KV} (hp:K.Perm) {i v:Nat} (hv:v<K.vars) (hi:K.lev v=i) (c y:Nat->Bool):K.mix (i+1) c y=K.mix i c (upd y v (c v)):=by
 funext u
 simp only [KV.mix,upd]
 by_cases hu:u=v
 ·subst hu;rw [if_pos ⟨hv,by omega⟩,if_neg (by omega),if_pos rfl]
 ·rw [if_neg hu]
  by_cases h1:u<K.vars/\K.lev u<i
  ·rw [if_pos h1,if_pos ⟨h1.1,by omega⟩]
  ·rw [if_neg h1,if_neg]
   rintro ⟨h2,h3⟩;refine hu (hp.inj h2 hv ?_);omega
theorem KV.Ok.root_mix {K:KV} (hk:K.Ok) {r:Nat} (h2:2<=r) (ht:K.A.tk r=true):∃ f a,0<K.hold f/\∀ y,K.den r y=K.den f (K.mix (K.dep r) a y):=by
 obtain ⟨f,hf,hu⟩:=hk.root_above h2 ht;obtain ⟨a,ha⟩:=hk.mix_under (hk.held_tk hf) hu;exact ⟨f,a,hf,ha⟩
theorem XP.old {K K':KV} {l r:Nat} (h:XP K l K') (ht:K'.A.tk r=true) (hd:K'.dep r≠l+1):K.A.tk r=true:=by
 by_cases h2:2<=r
 ·obtain ⟨f,a,hf,he⟩:=h.ok'.root_mix h2 ht
  have hf0:0<K.hold f:=by rw [<- h.ex.hd];exact hf
  obtain ⟨x,hx,hxe⟩:=K.sub_live h.ok (K'.dep r) a _ f (Nat.le_refl _) (h.ok.held_tk hf0)
  have:x=r:=h.ex.uq x r hx ht fun z=>by rw [hxe,he,h.mix hd,h.held hf0]
  rw [<- this];exact hx
 ·exact h.ok.tk01 (by omega)
theorem XP.other {K K':KV} {l r:Nat} (h:XP K l K') (h2:2<=r) (ht:K'.A.tk r=true) (h0:K'.dep r≠l) (h1:K'.dep r≠l+1):K.A.tk r=true/\K.dep r≠l/\K.dep r≠l+1:=by
 have tk:=h.old ht h1;refine ⟨tk,?_⟩;have hden:∀ z,K'.den r z=K.den r z:=h.ex.den r tk ht;have hde:K'.den r=K.den r:=funext hden;obtain ⟨v,hv,hd,hh,hno⟩:=h.ok'.node_hangs h.un' h2 ht;obtain ⟨w,hw,hd2,hh2,hno2⟩:=h.ok.node_hangs h.un h2 tk;rw [hde] at hh hno;have hvr:=h.ex.vr;have lv:=h.lev (v:=v) (by omega);have lw:=h.lev hw
 have a1:¬ K'.lev w<K'.lev v:=fun hlt=>hno w (by omega) hlt hh2
 have a2:¬ K.lev v<K.lev w:=fun hlt=>hno2 v (by omega) hlt hh
 unfold swL at lv lw
 split at lv <;> split at lw <;> (try split at lv) <;> (try split at lw) <;> omega
def newF (K:KV) (x:Nat) (q:Nat × Nat) (z:Nat->Bool):Bool:=if z x then K.den q.2 z else K.den q.1 z
theorem zaj5 {K:KV} {l x y:Nat} (nb:Nb K l x y) {q s:Nat × Nat} (q1:Deep K l q.1) (q2:Deep K l q.2) (s1:Deep K l s.1) (s2:Deep K l s.2) (e:∀ z,newF K x q z=newF K x s z):q=s:=by
 have key:∀ (b:Bool) (a c:Nat),Deep K l a->Deep K l c->(∀ z,newF K x q (upd z x b)=K.den a (upd z x b))->(∀ z,newF K x s (upd z x b)=K.den c (upd z x b))->a=c:=fun b a c ha hc h1 h2 =>
  KV.canon nb.ok.wf nb.ok.ord nb.un _ _ _ ha.1 hc.1 (Nat.le_refl _) fun z=>by
   have:=e (upd z x b);rw [h1,h2,(nb.deep_den ha z b).1,(nb.deep_den hc z b).1] at this;exact this
 have e1:=key false q.1 s.1 q1 s1 (fun z=>by simp [newF,upd_self]) (fun z=>by simp [newF,upd_self]);have e2:=key true q.2 s.2 q2 s2 (fun z=>by simp [newF,upd_self]) (fun z=>by simp [newF,upd_self]);exact Prod.ext e1 e2
theorem XP.nb {K K':KV} {l:Nat} (h:XP K l K'):Nb K l (K.order.getD l 0) (K.order.getD (l+1) 0):=⟨h.ok,h.un,h.hl,rfl,rfl⟩
theorem XP.new {K K':KV} {l r:Nat} {C:List CrV} {N:List (Nat × Nat)} (h:XP K l K') (CA:CrAll K l (K.order.getD l 0) (K.order.getD (l+1) 0) C) (F:FrN K (K.order.getD l 0) (C.flatMap CrV.qs) N) (ht:K'.A.tk r=true) (hn:K.A.tk r=false) :
  ∃ q,q∈N/\∀ z,K'.den r z=newF K (K.order.getD l 0) q z:=by
 have nb:=h.nb;obtain ⟨x,ex⟩ : ∃ x,K.order.getD l 0=x:=⟨_,rfl⟩;obtain ⟨y,ey⟩ : ∃ y,K.order.getD (l+1) 0=y:=⟨_,rfl⟩;rw [ex,ey] at CA nb;rw [ex] at F ⊢;obtain ⟨hx,hy,lx,ly,hxy⟩:=nb.facts;have hk:=h.ok
 have h2:2<=r:=by
  refine Classical.byContradiction fun h2=>?_
  have:=hk.tk01 (r:=r) (by omega)
  rw [hn] at this;cases this
 have hd:K'.dep r=l+1:=Classical.byContradiction fun hd=>by
  have:=h.old ht hd
  rw [hn] at this;cases this
 obtain ⟨f,a,hf,he⟩:=h.ok'.root_mix h2 ht
 have hf0:0<K.hold f:=by rw [<- h.ex.hd];exact hf
 obtain ⟨s,hs,hse⟩:=K.sub_live hk l a _ f (Nat.le_refl _) (hk.held_tk hf0);have hvr:=h.ex.vr
 have lyy:K'.lev y=l:=by rw [h.lev hy,ly,swL,if_neg (by omega),if_pos rfl]
 have hrs:∀ z,K'.den r z=K.den s (upd z y (a y)):=fun z=>by
  rw [he,hd,KV.mix_next h.ok'.ord.pm (by omega) lyy,h.mix (by omega),h.held hf0,hse]
 generalize a y=b at hrs
 have gone:∀ t,K.A.tk t=true->(∀ z,K'.den r z=K.den t z)->False:=fun t tt e=>by
  have:t=r:=h.ex.uq t r tt ht fun z=>(e z).symm
  subst this
  rw [hn] at tt;cases tt
 by_cases s2:2<=s
 ·obtain ⟨p,v,hp,hpt,hv,hvl,t1,t2,hdep⟩:=hk.wf.node_at s2 hs
  have hb:=hk.ord.below hk.wf s2 hp hpt
  have hsl:l<=K.dep s:=by
   obtain ⟨v',hv',hd',⟨z,hz⟩,_⟩:=hk.node_hangs h.un s2 hs
   refine Classical.byContradiction fun hlt=>hz ?_
   rw [hse,hse]
   congr 1
   funext w
   simp only [KV.mix,upd]
   by_cases ew:w=v'
   ·subst ew;rw [if_pos ⟨hv',by omega⟩,if_pos ⟨hv',by omega⟩]
   ·simp [ew]
  by_cases c1:l+2<=K.dep s
  ·exact (gone s hs fun z=>by rw [hrs,KV.den_upd hk.wf hk.ord hs hy (by omega)]).elim
  ·by_cases c2:K.dep s=l+1
   ·have:v=y:=hk.ord.pm.inj hvl hy (by omega)
    subst this
    have e0:=fun z=>KV.den_lo hk.wf hk.ord s2 hp hpt z
    have e1:=fun z=>KV.den_hi hk.wf hk.ord s2 hp hpt z
    rw [show p.var.toNat=v by omega] at e0 e1
    cases b with
    | false=>exact (gone p.lo t1 fun z=>by rw [hrs,e0]).elim
    | true=>exact (gone p.hi t2 fun z=>by rw [hrs,e1]).elim
   ·have:v=x:=hk.ord.pm.inj hvl hx (by omega)
    subst this
    by_cases hcr:K.Cross v y s
    ·obtain ⟨c,hc,rfl⟩:=List.mem_map.1 (CA.all s hcr)
     obtain ⟨p',_,_,_,_,_,F4⟩:=(CA.ok c hc).at_
     have hq:∃ q,q∈CrV.qs c/\∀ z,K'.den r z=newF K v q z:=by
      cases b with
      | false =>
       refine ⟨(c.a00,c.a10),by simp [CrV.qs],fun z=>?_⟩
       rw [hrs,F4.den,upd_self,upd_ne z false hxy,(nb.deep_den F4.d10 z false).2,(nb.deep_den F4.d00 z false).2];rfl
      | true =>
       refine ⟨(c.a01,c.a11),by simp [CrV.qs],fun z=>?_⟩
       rw [hrs,F4.den,upd_self,upd_ne z true hxy,(nb.deep_den F4.d11 z true).2,(nb.deep_den F4.d01 z true).2];rfl
     obtain ⟨q,hq,hqe⟩:=hq;have hqQ:q∈C.flatMap CrV.qs:=List.mem_flatMap.2 ⟨c,hc,hq⟩;obtain ⟨d1,d2⟩:=CA.deep hqQ;refine ⟨q,(F.iff q).2 ⟨hqQ,fun e=>?_,fun h3=>?_⟩,hqe⟩
     ·exact gone q.1 d1.1 fun z=>by rw [hqe,newF,e];simp
     ·obtain ⟨t,pt,tt2,hpt',htt,htv,e1,e2⟩:=h3
      exact gone t (ArenaV.tk_iff.2 ⟨pt,hpt',htt⟩) fun z=>by rw [hqe,newF,KV.den_node hk.wf hk.ord tt2 hpt' htt,show pt.var.toNat=v by omega,e1,e2]
    ·have k1:K.vI p.lo≠(y:Int):=fun e=>hcr ⟨s2,p,hp,hpt,hv,.inl e⟩
     have k2:K.vI p.hi≠(y:Int):=fun e=>hcr ⟨s2,p,hp,hpt,hv,.inr e⟩
     have g1:=nb.kid t1 (by omega) k1;have g2:=nb.kid t2 (by omega) k2
     exact (gone s hs fun z=>by
      rw [hrs,KV.den_node hk.wf hk.ord s2 hp hpt,KV.den_node hk.wf hk.ord s2 hp hpt,show p.var.toNat=v by omega,upd_ne z _ hxy,(nb.deep_den g1 z _).2,(nb.deep_den g2 z _).2]).elim
 ·exact (gone s hs fun z=>by rw [hrs,K.den_const (by omega),K.den_const (by omega)]).elim
theorem XP.came {K K':KV} {l:Nat} {C:List CrV} {N:List (Nat × Nat)} (h:XP K l K') (CA:CrAll K l (K.order.getD l 0) (K.order.getD (l+1) 0) C) (F:FrN K (K.order.getD l 0) (C.flatMap CrV.qs) N) {q:Nat × Nat} (hq:q∈N) :
  ∃ r,K'.A.tk r=true/\K.A.tk r=false/\∀ z,K'.den r z=newF K (K.order.getD l 0) q z:=by
 have nb:=h.nb;obtain ⟨x,ex⟩ : ∃ x,K.order.getD l 0=x:=⟨_,rfl⟩;obtain ⟨y,ey⟩ : ∃ y,K.order.getD (l+1) 0=y:=⟨_,rfl⟩;rw [ex,ey] at CA nb;rw [ex] at F ⊢;obtain ⟨hx,hy,lx,ly,hxy⟩:=nb.facts;have hk:=h.ok;obtain ⟨hqQ,hune,hno⟩:=(F.iff q).1 hq;obtain ⟨d1,d2⟩:=CA.deep hqQ;obtain ⟨c,hc,hm⟩:=List.mem_flatMap.1 hqQ;obtain ⟨p,hp,hpt,hv,_,_,F4⟩:=(CA.ok c hc).at_;have c2:2<=c.r:=(CA.ok c hc).cr.1;have ct:K.A.tk c.r=true:=ArenaV.tk_iff.2 ⟨p,hp,hpt⟩
 have hdl:K.dep c.r=l:=by rw [nb.dep_at hp hv];exact lx
 obtain ⟨f,a,hf,he⟩:=hk.root_mix c2 ct;rw [hdl] at he
 have hb:∃ b,∀ z,newF K x q z=K.den c.r (upd z y b):=by
  simp only [CrV.qs,List.mem_cons,List.not_mem_nil,or_false] at hm
  rcases hm with rfl | rfl
  ·refine ⟨false,fun z=>?_⟩
   rw [F4.den,upd_self,upd_ne z false hxy,(nb.deep_den F4.d10 z false).2,(nb.deep_den F4.d00 z false).2];rfl
  ·refine ⟨true,fun z=>?_⟩
   rw [F4.den,upd_self,upd_ne z true hxy,(nb.deep_den F4.d11 z true).2,(nb.deep_den F4.d01 z true).2];rfl
 obtain ⟨b,hb⟩:=hb;have hvr:=h.ex.vr
 have lyy:K'.lev y=l:=by rw [h.lev hy,ly,swL,if_neg (by omega),if_pos rfl]
 have hf':0<K'.hold f:=by rw [h.ex.hd];exact hf
 obtain ⟨t,ht,hte⟩:=K'.sub_live h.ok' (l+1) (upd a y b) _ f (Nat.le_refl _) (h.ok'.held_tk hf')
 have hden:∀ z,K'.den t z=newF K x q z:=fun z=>by
  rw [hte,KV.mix_next h.ok'.ord.pm (by omega) lyy,h.mix (by omega),h.held hf,hb,he,upd_self]
  congr 1
  funext w
  by_cases ew:w=y
  ·subst ew;simp [KV.mix,upd,ly];intros;omega
  ·simp [KV.mix,upd,ew]
 refine ⟨t,ht,?_,hden⟩
 refine Classical.byContradiction fun hnn=>?_
 have tk:K.A.tk t=true:=by
  cases hh:K.A.tk t with
  | true=>rfl
  | false=>exact absurd hh hnn
 have hde:∀ z,K.den t z=if z x then K.den q.2 z else K.den q.1 z:=fun z=>(h.ex.den t tk ht z).symm.trans (hden z)
 by_cases t2:2<=t
 ·exact hno (nb.pair d1 d2 hune t2 tk hde)
 ·refine hune (KV.canon hk.wf hk.ord nb.un _ _ _ d1.1 d2.1 (Nat.le_refl _) fun z=>?_)
  have e1:=hde (upd z x true);have e0:=hde (upd z x false);rw [upd_self] at e1 e0;rw [K.den_const (by omega),(nb.deep_den d2 z true).1] at e1;rw [K.den_const (by omega),(nb.deep_den d1 z false).1] at e0
  simp at e1 e0
  rw [<- e1,<- e0]
def newL (K K':KV):List Nat:=K'.lives.filter fun r=>!(K.A.tk r)
theorem zaa5 {K K':KV} {r:Nat}:r∈newL K K'↔K'.A.tk r=true/\K.A.tk r=false:=by
 unfold newL;rw [List.mem_filter,KV.mem_lives];simp
theorem zag5 (K K':KV):(newL K K').Nodup:=List.Pairwise.filter _ K'.lives_nodup
theorem XP.count {K K':KV} {l:Nat} {C:List CrV} {N:List (Nat × Nat)} (h:XP K l K') (CA:CrAll K l (K.order.getD l 0) (K.order.getD (l+1) 0) C) (F:FrN K (K.order.getD l 0) (C.flatMap CrV.qs) N):N.length=(newL K K').length:=by
 have deep:∀ q,q∈N->Deep K l q.1/\Deep K l q.2:=fun q hq=>CA.deep ((F.iff q).1 hq).1
 refine Nat.le_antisymm ?_ ?_
 ·let g:Nat × Nat->Nat:=fun q=>if hq:q∈N then (h.came CA F hq).choose else 0
  have hg:∀ q,q∈N->K'.A.tk (g q)=true/\K.A.tk (g q)=false/\∀ z,K'.den (g q) z=newF K (K.order.getD l 0) q z:=fun q hq=>by
   simp only [g,dif_pos hq]
   exact (h.came CA F hq).choose_spec
  have nd:(N.map g).Nodup:=List.pairwise_map.2 (List.Pairwise.imp_of_mem (fun {a b} ha hb hne e=>hne (zaj5 h.nb (deep a ha).1 (deep a ha).2 (deep b hb).1 (deep b hb).2 fun z=>by rw [<- (hg a ha).2.2,<- (hg b hb).2.2,e])) F.nd)
  have:=List.Nodup.length_le_of_subset nd (l₂:=newL K K') fun x hx=>by
   obtain ⟨q,hq,rfl⟩:=List.mem_map.1 hx;exact zaa5.2 ⟨(hg q hq).1,(hg q hq).2.1⟩
  simpa using this
 ·let g:Nat->Nat × Nat:=fun r=>if hr:K'.A.tk r=true/\K.A.tk r=false then (h.new CA F hr.1 hr.2).choose else (0,0)
  have hg:∀ r,r∈newL K K'->g r∈N/\∀ z,K'.den r z=newF K (K.order.getD l 0) (g r) z:=fun r hr=>by
   have hr':=zaa5.1 hr
   simp only [g,dif_pos hr']
   exact (h.new CA F hr'.1 hr'.2).choose_spec
  have nd:((newL K K').map g).Nodup:=List.pairwise_map.2 (List.Pairwise.imp_of_mem (fun {a b} ha hb hne e=>hne (KV.canon h.ok'.wf h.ok'.ord h.un' _ _ _ (zaa5.1 ha).1 (zaa5.1 hb).1 (Nat.le_refl _) fun z=>by rw [(hg a ha).2,(hg b hb).2,e])) (zag5 K K'))
  have:=List.Nodup.length_le_of_subset nd (l₂:=N) fun x hx=>by
   obtain ⟨r,hr,rfl⟩:=List.mem_map.1 hx;exact (hg r hr).1
  simpa using this
theorem zam5 {K K':KV} (hk:K.Ok) (hk':K'.Ok):K.A.used+(newL K K').length=K'.A.used+(newL K' K).length:=by
 have key:∀ {A B:KV},A.Ok->A.A.used=(A.lives.filter fun r=>B.A.tk r).length+(newL B A).length:=fun {A B} ha=>by
  rw [<- A.lives_len ha.wf,newL,<- List.countP_eq_length_filter,<- List.countP_eq_length_filter];have hh:=List.length_eq_countP_add_countP (fun r=>B.A.tk r) (l:=A.lives);rw [hh]
  congr 2
  funext a
  cases B.A.tk a <;> rfl
 have e:(K.lives.filter fun r=>K'.A.tk r).length=(K'.lives.filter fun r=>K.A.tk r).length:=Nat.le_antisymm
  (List.Nodup.length_le_of_subset (List.Pairwise.filter _ K.lives_nodup) fun r hr=>by
   rw [List.mem_filter,KV.mem_lives] at hr ⊢;exact ⟨hr.2,hr.1⟩)
  (List.Nodup.length_le_of_subset (List.Pairwise.filter _ K'.lives_nodup) fun r hr=>by
   rw [List.mem_filter,KV.mem_lives] at hr ⊢;exact ⟨hr.2,hr.1⟩)
 have e1:=key (B:=K') hk;have e2:=key (B:=K) hk';omega
theorem XP.room {K K':KV} {l n:Nat} (h:XP K l K') (hn:RoomN K l n):RoomN K' l n:=by
 intro C' N' CA' F'
 obtain ⟨C,CA⟩:=CrAll.exists h.nb;obtain ⟨N,F⟩:=FrN.exists K (K.order.getD l 0) (C.flatMap CrV.qs);have e1:=hn C N CA F;have e2:=h.count CA F;have e3:=h.sym.count CA' F';have e4:=zam5 h.ok h.ok';omega
theorem XP.live {K K':KV} {l u v:Nat} (h:XP K l K') (hu:K.order.getD l 0=u) (hv:K.order.getD (l+1) 0=v) :
  K'.A.used+(K.nodesV u).length+(K.nodesV v).length=K.A.used+(K'.nodesV u).length+(K'.nodesV v).length:=by
 have nb:=h.nb;rw [hu,hv] at nb;obtain ⟨hx,hy,lx,ly,hxy⟩:=nb.facts;have hvr:=h.ex.vr
 have lx':K'.lev u=l+1:=by rw [h.lev hx,lx,swL,if_pos rfl]
 have ly':K'.lev v=l:=by rw [h.lev hy,ly,swL,if_neg (by omega),if_pos rfl]
 have key:∀ {A:KV},A.Ok->A.A.used=(A.nodes.filter fun r=>decide (A.vI r≠(u:Int)/\A.vI r≠(v:Int))).length+(A.nodesV u).length+(A.nodesV v).length+2:=fun {A} ha=>by
  rw [<- ha.nodes_len];unfold KV.nodesV;generalize A.nodes=L
  induction L with
  | nil=>rfl
  | cons a L ih =>
   have huv:(u:Int)≠(v:Int):=by omega
   by_cases e1:A.vI a=(u:Int)
   ·have e2:¬ A.vI a=(v:Int):=by rw [e1];exact huv
    simp only [List.filter_cons,e1,huv,ne_eq,not_true_eq_false,false_and,decide_false,decide_true,if_true,Bool.false_eq_true,if_false,List.length_cons] at ih ⊢
    simp at ih ⊢
    omega
   ·by_cases e2:A.vI a=(v:Int)
    ·simp [e2,huv.symm] at ih ⊢
     omega
    ·simp [e1,e2] at ih ⊢
     omega
 have side:∀ {A:KV} {r:Nat},A.Ok->A.vars=K.vars->2<=r->A.A.tk r=true->∀ {w:Nat},w<K.vars->(A.vI r=(w:Int)↔A.dep r=A.lev w):=fun {A r} ha hvr h2 ht {w} hw=>by
  obtain ⟨p,q,hp,hpt,hpv,hpl,_,_,hd⟩:=ha.wf.node_at h2 ht;rw [KV.vI_at hp,hpv,hd];constructor
  ·intro e;rw [show q=w by omega]
  ·intro e;rw [ha.ord.pm.inj hpl (by omega) e]
 have sub:∀ {A B:KV} {r:Nat},XP A l B->A.vars=K.vars->(B.lev u=l/\B.lev v=l+1\/B.lev u=l+1/\B.lev v=l)->(A.lev u=l/\A.lev v=l+1\/A.lev u=l+1/\A.lev v=l)->r∈(B.nodes.filter fun r=>decide (B.vI r≠(u:Int)/\B.vI r≠(v:Int)))->r∈(A.nodes.filter fun r=>decide (A.vI r≠(u:Int)/\A.vI r≠(v:Int))):=fun {A B r} hab ha hB hA hr=>by
  rw [List.mem_filter,KV.mem_nodes,decide_eq_true_eq] at hr ⊢;obtain ⟨⟨h2,ht⟩,hru,hrv⟩:=hr;have hb:B.vars=K.vars:=hab.ex.vr.trans ha;rw [ne_eq,side hab.ok' hb h2 ht hx] at hru;rw [ne_eq,side hab.ok' hb h2 ht hy] at hrv;obtain ⟨g1,g2,g3⟩:=hab.other h2 ht (by omega) (by omega);refine ⟨⟨h2,g1⟩,?_,?_⟩
  ·rw [ne_eq,side hab.ok ha h2 g1 hx];omega
  ·rw [ne_eq,side hab.ok ha h2 g1 hy];omega
 have e:(K.nodes.filter fun r=>decide (K.vI r≠(u:Int)/\K.vI r≠(v:Int))).length=(K'.nodes.filter fun r=>decide (K'.vI r≠(u:Int)/\K'.vI r≠(v:Int))).length:=Nat.le_antisymm
  (List.Nodup.length_le_of_subset (List.Pairwise.filter _ K.nodes_nodup) fun r hr=>sub h.sym hvr (.inl ⟨lx,ly⟩) (.inr ⟨lx',ly'⟩) hr)
  (List.Nodup.length_le_of_subset (List.Pairwise.filter _ K'.nodes_nodup) fun r hr=>sub h rfl (.inr ⟨lx',ly'⟩) (.inl ⟨lx,ly⟩) hr)
 have e1:=key h.ok;have e2:=key h.ok';omega
theorem zah5 {K B:KV} (hk:K.Ok) (hu:K.Uni) (hb:B.Ok) (hv:B.vars=K.vars) (ho:B.order=K.order) (hd:∀ r,0<K.hold r->0<B.hold r/\∀ z,B.den r z=K.den r z):K.A.used<=B.A.used:=by
 refine Has.used (fun r ht=>?_) hk hu hb
 by_cases h2:2<=r
 ·obtain ⟨f,a,hf,he⟩:=hk.root_mix h2 ht
  obtain ⟨hf',hden⟩:=hd f hf;obtain ⟨s,hs,hse⟩:=B.sub_live hb (K.dep r) a _ f (Nat.le_refl _) (hb.held_tk hf');refine ⟨s,hs,fun z=>?_⟩;rw [he,hse,hden]
  congr 1
  funext v
  simp only [KV.mix]
  by_cases hvv:v<K.vars
  ·have:B.lev v=K.lev v:=by
    have:=(hb.ord.pm.at_order (i:=K.lev v) (v:=v) (by rw [ho];exact hk.ord.pm.order_at hvv)).2;exact this
   rw [this,hv]
  ·rw [if_neg (by omega),if_neg (by omega)]
 ·exact ⟨r,hb.tk01 (by omega),fun z=>by rw [K.den_const (by omega),B.den_const (by omega)]⟩
theorem home_eq {K B:KV} (hk:K.Ok) (hu:K.Uni) (hb:B.Ok) (hub:B.Uni) (hv:B.vars=K.vars) (ho:B.order=K.order) (hh:∀ r,B.hold r=K.hold r) (hd:∀ r,0<K.hold r->∀ z,B.den r z=K.den r z):B.A.used=K.A.used :=
 Nat.le_antisymm (zah5 hb hub hk hv.symm ho.symm fun r hr=>by rw [hh] at hr;exact ⟨hr,fun z=>(hd r hr z).symm⟩) (zah5 hk hu hb hv ho fun r hr=>⟨by rw [hh];exact hr,hd r hr⟩)
end Go.Proofs.YtfkopmhpppeheaaGreat
