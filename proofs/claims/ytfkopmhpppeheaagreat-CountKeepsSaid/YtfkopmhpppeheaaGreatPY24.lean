import Derived.Test.YtfkopmhpppeheaaGreatPY13
import Derived.Test.YtfkopmhpppeheaaGreatPY21
import Derived.Test.YtfkopmhpppeheaaGreatPY23
import Derived.Test.YtfkopmhpppeheaaGreatPY18
import Derived.Test.YtfkopmhpppeheaaGreatPY19
import Derived.Test.YtfkopmhpppeheaaGreatPY15
import Derived.Test.YtfkopmhpppeheaaGreatPY12
import Derived.Deep.RegionHeld3
set_option maxRecDepth 100000
set_option maxHeartbeats 3200000
namespace Go.Proofs.YtfkopmhpppeheaaGreat
def supN (t:TV) (k:Nat):Nat:=(List.range k).foldl (fun s v=>if depT t v then s+2 ^ v else s) 0
theorem supN_succ (t:TV) (k:Nat):supN t (k+1)=if depT t k then supN t k+2 ^ k else supN t k:=by
 unfold supN;rw [List.range_succ,List.foldl_append];rfl
theorem supN_bits (t:TV):∀ k,supN t k<2 ^ k/\∀ i,(supN t k).testBit i=(decide (i<k)&&depT t i)
 | 0=>⟨by simp [supN],fun i=>by simp [supN]⟩
 | k+1=>by
  obtain ⟨h1,h2⟩:=supN_bits t k;rw [supN_succ];split
  ·rename_i hd
   refine ⟨by rw [Nat.pow_succ];omega,fun i=>?_⟩;rw [tb_add (by rw [h2];simp) i,h2]
   by_cases e:i=k
   ·subst e;simp [hd]
   ·rw [if_neg e]
    congr 1
    rw [Bool.eq_iff_iff];simp;omega
  ·rename_i hd
   refine ⟨by rw [Nat.pow_succ];omega,fun i=>?_⟩;rw [h2]
   by_cases e:i=k
   ·subst e;simp [hd]
   ·congr 1
    rw [Bool.eq_iff_iff];simp;omega
def supT (t:TV):Int:=(supN t t.n:Nat)
theorem supT_bits {t:TV} (h:t.n<=64):U64 (supT t)/\∀ i,nb (supT t) i=(decide (i<t.n)&&depT t i):=by
 obtain ⟨h1,h2⟩:=supN_bits t t.n;have:2 ^ t.n<=2 ^ 64:=Nat.pow_le_pow_right (by omega) h;refine ⟨by unfold supT U64;omega,fun i=>?_⟩;unfold supT;rw [nb_cast,h2]
theorem SupIs.table {K:KV} {r:Nat} {s:Int} {t:TV} (hk:K.Ok) (hu:K.Uni) (h:SupIs K r s) (hr:Names K r t) (ht:t.Ok) (hn:t.n=K.vars):s=supT t:=by
 have hvs:=hk.wf.vs;obtain ⟨a1,a2⟩:=h.bits hk hu hr.1;obtain ⟨b1,b2⟩:=supT_bits (t:=t) (by omega);have e:K.den r=t.fn:=funext hr.2
 refine nb_ext a1 b1 fun i _=>?_
 rw [Bool.eq_iff_iff,a2,b2,e,Bool.and_eq_true,decide_eq_true_eq];constructor
 ·intro hh
  have hi:i<t.n:=by
   by_cases hi:i<t.n
   ·exact hi
   ·exfalso
    obtain ⟨y,hy⟩:=hh;exact hy (t.fn_same fun v hv=>by rw [upd_ne _ _ (by omega),upd_ne _ _ (by omega)])
  exact ⟨hi,(depT_iff ht hi).2 hh⟩
 ·rintro ⟨hi,hd⟩
  exact (depT_iff ht hi).1 hd
end Go.Proofs.YtfkopmhpppeheaaGreat
namespace Go.Proofs.YtfkopmhpppeheaaGreat
open Go.RowKit Go.Maps Go.ChangeMaps Go.WideShapes
theorem supN_lt64 {t:TV} {k:Nat} (hk:k<64):IntKind.u64.wrap ((supN t k:Int)+IntKind.u64.wrap (2 ^ k))=((supN t k+2 ^ k:Nat):Int):=by
 have h1:=(supN_bits t k).1;have h2:(2:Nat) ^ (k+1)<=2 ^ 64:=Nat.pow_le_pow_right (by omega) hk
 have h3:(2:Nat) ^ (k+1)=2*2 ^ k:=by rw [Nat.pow_succ];omega
 have e:∀ n:Int,IntKind.u64.wrap n=n % 18446744073709551616:=fun _=>rfl
 have e2:((2:Int) ^ k)=((2 ^ k:Nat):Int):=by push_cast;rfl
 rw [e,e,e2];generalize (2:Nat) ^ k=z at *;omega
theorem sup5_spec (Z:List Nat) (c:Value) (t:TV) (w:World) (h:TIn w Z c t) (hZ:∀ k,k∈Z->k<w.heap.size) (hn:t.n<=8) :
  Calls Tryz.prog 190 #[tabV t c] w fun e w'=>e=.returned (.int .u64 (supT t))/\Upd [] w w':=by
 obtain ⟨fa,ca,hca,_⟩:=row_nil_len h.row;subst hca
 have HD:Hid (∀ (x:World) (v:Nat),Upd [] w x->v<t.n->Calls Tryz.prog 134 #[tabV t (.slice fa t.ws.length ca),.int .i64 v] x fun e w'=>e=.returned (.bool (depT t v))/\Upd [] x w'):=fun x v u hv =>
  depends_spec Z _ t v x (h.keep0 u) (fun k hk=>Nat.lt_of_lt_of_le (hZ k hk) u.size) hv (by omega)
 have HU0:=Lib.hid ((Upd.refl [] w).alloc (.cells #[.int .i64 t.n,.slice fa t.ws.length ca] 122 (0,0)));have HB:=Lib.hid (boxT w (.int .i64 t.n) (.slice fa t.ws.length ca));have HE:Hid (((supN t t.n:Nat):Int)=supT t):=rfl;unfold tabV at HD ⊢;generalize t.ws.length=L at *;generalize t.n=n at *;obtain ⟨b0,b1⟩:=HB.out;clear h hZ
 go_enter Tryz.func190,Tryz.ntmps190
 go_wp2_with fail
 go_loopg [3,4] n (fun gg s3 s4 wr=>∃ v:Nat,n-v=gg/\v<=n/\s3=.int .u64 (supN t v:Nat)/\s4=.int .i64 v/\Upd [] (w.alloc (.cells #[.int .i64 n,.slice fa L ca] 122 (0,0))) wr)
 case atStart=>exact ⟨0,by omega,by omega,rfl,rfl,Upd.refl _ _⟩
 case round =>
  obtain ⟨v,rfl,hv,rfl,rfl,hU⟩:=hrel;clear b0 b1;obtain ⟨y0,y1⟩:=boxT_keep hU HB.out;have HU:=Lib.hid hU;clear hU
  by_cases hlt:v<n
  ·have hvi:(v:Int)<(n:Int):=by omega
   have hv64:v<64:=by omega
   have HAD:=Lib.hid (supN_lt64 (t:=t) hv64);have HSC:=Lib.hid (supN_succ t v);go_wp2_with fail;refine (HD.out wr v (HU0.out.trans HU.out) hlt).mono ?_;rintro e w3 ⟨rfl,hu⟩;have HU3:=Lib.hid (HU.out.trans hu);clear hu
   cases hd:depT t v with
   | true =>
    rw [hd,if_pos rfl] at HSC;clear hd;go_wp2_with fail
    go_roundg (n-(v+1))
    case measure=>omega
    case rel=>exact ⟨v+1,rfl,by omega,by rw [HSC.out,<- HAD.out],by simp,HU3.out⟩
   | false =>
    rw [hd] at HSC;clear hd;go_wp2_with fail
    go_roundg (n-(v+1))
    case measure=>omega
    case rel=>exact ⟨v+1,rfl,by omega,by rw [HSC.out];rfl,by simp,HU3.out⟩
  ·obtain rfl:v=n:=by omega
   have hvi:¬ ((v:Int)<(v:Int)):=by omega
   go_wp2_with fail;go_ret;exact ⟨by first | rfl | (rw [HE.out];rfl),HU0.out.trans HU.out⟩
theorem rsats_spec (Z:List Nat) (c:Value) (t:TV) (w:World) (h:TIn w Z c t) (h6:t.n<=8) :
  Calls Tryz.prog 191 #[tabV t c] w fun e w'=>e=.returned (.int .u64 (t.sats:Nat))/\Upd [] w w':=by
 obtain ⟨ta,tc,rfl,_⟩:=row_nil_len h.row;have hb:=boxT w (.int .i64 t.n) (.slice ta t.ws.length tc);have HU0:=Lib.hid ((Upd.refl [] w).alloc (.cells #[.int .i64 t.n,.slice ta t.ws.length tc] 122 (0,0)))
 have HBT:Hid (∀ (x:World) (i:Nat),Upd [] w x->i<2 ^ t.n->Calls Tryz.prog 135 #[tabV t (.slice ta t.ws.length tc),.int .i64 i] x fun e w'=>e=.returned (.bool (t.bit i))/\Upd [] x w'):=fun x i u hi=>tbit_spec Z _ t i x (h.keep0 u) hi
 have hp:(1:Nat)<=2 ^ t.n/\2 ^ t.n<=256:=by
  refine ⟨Nat.two_pow_pos _,?_⟩
  calc 2 ^ t.n<=2 ^ 8:=Nat.pow_le_pow_right (by omega) h6
   _=256:=rfl
 have hsh:IntKind.i64.wrap (2 ^ t.n)=((2 ^ t.n:Nat):Int):=by
  have h2:((2:Int) ^ t.n)=((2 ^ t.n:Nat):Int):=by push_cast;rfl
  rw [h2];exact IntWalk.i64_in _ (by omega)
 have hn64:(t.n:Int)<64:=by omega
 have HS:Hid (t.sats=cntB t.bit (2 ^ t.n)):=rfl;unfold tabV at HBT ⊢;generalize t.ws.length=W at *;obtain ⟨N,hN⟩ : ∃ N,2 ^ t.n=N:=⟨_,rfl⟩;rw [hN] at hp hsh HS
 simp only [hN] at HBT
 generalize t.n=n at *;generalize t.sats=st at *;generalize t.bit=bt at *
 have HB:Hid (∀ x:World,Upd [] (w.alloc (.cells #[.int .i64 n,.slice ta W tc] 122 (0,0))) x->x.cell? ⟨w.heap.size,0,none⟩=some (.int .i64 n)/\x.cell? ⟨w.heap.size,1,none⟩=some (.slice ta W tc)):=fun x u=>⟨u.cell0 hb.1,u.cell0 hb.2⟩
 clear h hb hN h6
 go_enter Tryz.func191,Tryz.ntmps191
 go_wp2_with fail
 go_loopg [3,4] N (fun g s3 s4 wr=>∃ i:Nat,N-i=g/\i<=N/\s4=.int .i64 i/\s3=.int .u64 (cntB bt i:Nat)/\Upd [] (w.alloc (.cells #[.int .i64 n,.slice ta W tc] 122 (0,0))) wr)
 case atStart=>exact ⟨0,by omega,by omega,rfl,rfl,Upd.refl _ _⟩
 case round =>
  obtain ⟨i,rfl,hi,rfl,rfl,hU⟩:=hrel;obtain ⟨z0,z1⟩:=HB.out _ hU;have hcl:=cntB_le bt i
  by_cases hlt:i<N
  ·have hil:(i:Int)<(N:Int):=by omega
   have HV:=Lib.hid (HBT.out wr i (HU0.out.trans hU) hlt);have HU:=Lib.hid hU;have HC:Hid (cntB bt (i+1)=cntB bt i+if bt i then 1 else 0):=rfl;generalize hcb:cntB bt i=cb at *;clear hU hcb;go_wp2_with fail;refine HV.out.mono ?_;rintro e w3 ⟨rfl,hu⟩;have HU3:=Lib.hid (HU.out.trans hu);have HUx:=hu;clear hu
   cases hbi:bt i with
   | true =>
    have HBI:=Lib.hid hbi;clear hbi;go_wp2_with fail
    go_roundg (N-(i+1))
    case measure=>omega
    case rel=>exact ⟨i+1,rfl,by omega,by simp,by rw [HC.out,HBI.out];simp,HU3.out⟩
   | false =>
    have HBI:=Lib.hid hbi;clear hbi;go_wp2_with fail
    go_roundg (N-(i+1))
    case measure=>omega
    case rel=>exact ⟨i+1,rfl,by omega,by simp,by rw [HC.out,HBI.out];simp,HU3.out⟩
  ·obtain rfl:i=N:=by omega
   have hil:¬ ((i:Int)<(i:Int)):=by omega
   have HU:=Lib.hid hU;clear hU;go_wp2_with fail;go_ret;exact ⟨by rw [HS.out];rfl,HU0.out.trans HU.out⟩
theorem docsats_spec (m:Nat) (M:MV) (p:MPtr) (Z:List Nat) (c:Value) (t:TV) (w:World) (h:ModIn w m M p Z) (hZ:∀ k,k∈Z->k<w.heap.size) (hf:M.Fit) (ht:TIn w Z c t) (hl:M.isLive t=true) (h6:t.n<=8) :
  Calls Tryz.prog 119 #[.pointer (some ⟨m,0,none⟩),tabV t c] w fun e w'=>e=.returned (.tuple #[.int .u64 ((t.sats:Nat)),.int .i64 0])/\Upd [] w w':=by
 obtain ⟨ta,tc,rfl,_⟩:=row_nil_len ht.row;have hb:=boxT w (.int .i64 t.n) (.slice ta t.ws.length tc);have hu0:=(Upd.refl [] w).alloc (.cells #[.int .i64 t.n,.slice ta t.ws.length tc] 122 (0,0));have HU0:=Lib.hid hu0;have HI:=Lib.hid (islive_spec m M p Z _ t _ (h.keep0 hu0) (fun k hk=>Nat.lt_of_lt_of_le (hZ k hk) hu0.size) hf (ht.keep0 hu0))
 have HX:Hid (∀ z,Upd [] w z->Calls Tryz.prog 191 #[tabV t (.slice ta t.ws.length tc)] z fun e w'=>e=.returned (.int .u64 ((t.sats:Nat)))/\Upd [] z w'):=fun z u=>rsats_spec Z _ t z (ht.keep0 u) h6
 rw [hl] at HI;obtain ⟨vv,hvv⟩ : ∃ vv:Int,((t.sats:Nat):Int)=vv:=⟨_,rfl⟩;rw [hvv] at HX ⊢;unfold tabV at HI HX ⊢;generalize t.ws.length=W at *;generalize t.n=n at *
 have HB:Hid (∀ x:World,Upd [] (w.alloc (.cells #[.int .i64 n,.slice ta W tc] 122 (0,0))) x->x.cell? ⟨w.heap.size,0,none⟩=some (.int .i64 n)/\x.cell? ⟨w.heap.size,1,none⟩=some (.slice ta W tc)):=fun x u=>⟨u.cell0 hb.1,u.cell0 hb.2⟩
 obtain ⟨b0,b1⟩:=hb;clear h hZ hf ht hl h6 hu0 hvv
 go_enter Tryz.func119,Tryz.ntmps119
 go_wp2_with fail;refine HI.out.mono ?_;rintro e w1 ⟨rfl,hu⟩;obtain ⟨z0,z1⟩:=HB.out _ hu;have HU1:=Lib.hid (HU0.out.trans hu);clear hu b0 b1;go_wp2_with fail;refine (HX.out _ HU1.out).mono ?_;rintro e w2 ⟨rfl,hu⟩;have HU2:=Lib.hid (HU1.out.trans hu);clear hu z0 z1;go_wp2_with fail;go_ret2;exact ⟨rfl,HU2.out⟩
theorem docsup_spec (m:Nat) (M:MV) (p:MPtr) (Z:List Nat) (c:Value) (t:TV) (w:World) (h:ModIn w m M p Z) (hZ:∀ k,k∈Z->k<w.heap.size) (hf:M.Fit) (ht:TIn w Z c t) (hl:M.isLive t=true) (h6:t.n<=8) :
  Calls Tryz.prog 118 #[.pointer (some ⟨m,0,none⟩),tabV t c] w fun e w'=>e=.returned (.tuple #[.int .u64 (supT t),.int .i64 0])/\Upd [] w w':=by
 obtain ⟨ta,tc,rfl,_⟩:=row_nil_len ht.row;have hb:=boxT w (.int .i64 t.n) (.slice ta t.ws.length tc);have hu0:=(Upd.refl [] w).alloc (.cells #[.int .i64 t.n,.slice ta t.ws.length tc] 122 (0,0));have HU0:=Lib.hid hu0;have HI:=Lib.hid (islive_spec m M p Z _ t _ (h.keep0 hu0) (fun k hk=>Nat.lt_of_lt_of_le (hZ k hk) hu0.size) hf (ht.keep0 hu0))
 have HX:Hid (∀ z,Upd [] w z->Calls Tryz.prog 190 #[tabV t (.slice ta t.ws.length tc)] z fun e w'=>e=.returned (.int .u64 (supT t))/\Upd [] z w'):=fun z u=>sup5_spec Z _ t z (ht.keep0 u) (fun k hk=>Nat.lt_of_lt_of_le (hZ k hk) u.size) h6
 rw [hl] at HI;obtain ⟨vv,hvv⟩ : ∃ vv:Int,(supT t:Int)=vv:=⟨_,rfl⟩;rw [hvv] at HX ⊢;unfold tabV at HI HX ⊢;generalize t.ws.length=W at *;generalize t.n=n at *
 have HB:Hid (∀ x:World,Upd [] (w.alloc (.cells #[.int .i64 n,.slice ta W tc] 122 (0,0))) x->x.cell? ⟨w.heap.size,0,none⟩=some (.int .i64 n)/\x.cell? ⟨w.heap.size,1,none⟩=some (.slice ta W tc)):=fun x u=>⟨u.cell0 hb.1,u.cell0 hb.2⟩
 obtain ⟨b0,b1⟩:=hb;clear h hZ hf ht hl h6 hu0 hvv
 go_enter Tryz.func118,Tryz.ntmps118
 go_wp2_with fail;refine HI.out.mono ?_;rintro e w1 ⟨rfl,hu⟩;obtain ⟨z0,z1⟩:=HB.out _ hu;have HU1:=Lib.hid (HU0.out.trans hu);clear hu b0 b1;go_wp2_with fail;refine (HX.out _ HU1.out).mono ?_;rintro e w2 ⟨rfl,hu⟩;have HU2:=Lib.hid (HU1.out.trans hu);clear hu z0 z1;go_wp2_with fail;go_ret2;exact ⟨rfl,HU2.out⟩
theorem reval_spec (Z:List Nat) (c:Value) (t:TV) (X:Nat) (w:World) (h:TIn w Z c t) (h6:t.n<=8) (hX:X<=18446744073709551615) :
  Calls Tryz.prog 189 #[tabV t c,.int .u64 X] w fun e w'=>e=.returned (.bool (t.bit (X % 2 ^ t.n)))/\Upd [] w w':=by
 obtain ⟨ta,tc,rfl,_⟩:=row_nil_len h.row;have hb:=boxT w (.int .i64 t.n) (.slice ta t.ws.length tc);have HU0:=Lib.hid ((Upd.refl [] w).alloc (.cells #[.int .i64 t.n,.slice ta t.ws.length tc] 122 (0,0)))
 have hp:(1:Nat)<=2 ^ t.n/\2 ^ t.n<=256:=by
  refine ⟨Nat.two_pow_pos _,?_⟩
  calc 2 ^ t.n<=2 ^ 8:=Nat.pow_le_pow_right (by omega) h6
   _=256:=rfl
 have HBT:Hid (∀ (x:World) (i:Nat),Upd [] w x->i<2 ^ t.n->Calls Tryz.prog 135 #[tabV t (.slice ta t.ws.length tc),.int .i64 i] x fun e w'=>e=.returned (.bool (t.bit i))/\Upd [] x w'):=fun x i u hi=>tbit_spec Z _ t i x (h.keep0 u) hi
 have hsh:IntKind.u64.wrap (2 ^ t.n)=((2 ^ t.n:Nat):Int):=by
  have h2:((2:Int) ^ t.n)=((2 ^ t.n:Nat):Int):=by push_cast;rfl
  rw [h2,IntKind.wrap_u64];exact Int.emod_eq_of_lt (by omega) (by omega)
 have hn64:(t.n:Int)<64:=by omega
 unfold tabV at HBT ⊢;generalize t.ws.length=W at *;obtain ⟨N,hN⟩ : ∃ N,2 ^ t.n=N:=⟨_,rfl⟩;rw [hN] at hp hsh
 simp only [hN] at HBT ⊢
 generalize t.n=n at *;generalize t.bit=bt at *;obtain ⟨j,hj⟩ : ∃ j,X % N=j:=⟨_,rfl⟩
 have hjl:j<N:=by rw [<- hj];exact Nat.mod_lt _ (by omega)
 have hmod:(X:Int).tmod (N:Int)=(j:Int):=by
  rw [Int.tmod_eq_emod_of_nonneg (by omega),<- hj];exact (Int.natCast_emod X N).symm
 have hN0:¬ ((N:Int)=0):=by omega
 have hN0n:¬ (N=0):=by omega
 have hw:IntKind.i64.wrap (j:Int)=(j:Int):=IntWalk.i64_in _ (by omega);rw [hj]
 have HB:Hid (∀ x:World,Upd [] (w.alloc (.cells #[.int .i64 n,.slice ta W tc] 122 (0,0))) x->x.cell? ⟨w.heap.size,0,none⟩=some (.int .i64 n)/\x.cell? ⟨w.heap.size,1,none⟩=some (.slice ta W tc)):=fun x u=>⟨u.cell0 hb.1,u.cell0 hb.2⟩
 obtain ⟨b0,b1⟩:=hb;have HJ:=Lib.hid hjl;clear h hN h6 hj hX
 go_enter Tryz.func189,Tryz.ntmps189
 go_wp2_with fail
 go_region_held3 (fun z=>z.cell? ⟨w.heap.size,0,none⟩=some (.int .i64 n)/\z.cell? ⟨w.heap.size,1,none⟩=some (.slice ta W tc)) (first | exact HB.out _ (Upd.refl _ _).drew | exact HB.out _ HU2.out) (first
  | (go_at_call 135;refine (HBT.out _ j HU0.out.drew HJ.out).mono ?_;rintro e w2 ⟨rfl,hu⟩;have HU2:=Lib.hid (((Upd.refl [] _).drew).trans hu);clear hu))
 all_goals go_wp2_with fail
 all_goals go_ret
 all_goals exact ⟨rfl,HU0.out.trans HU2.out⟩
theorem doceval_spec (m:Nat) (M:MV) (p:MPtr) (Z:List Nat) (c:Value) (t:TV) (X:Nat) (w:World) (h:ModIn w m M p Z) (hZ:∀ k,k∈Z->k<w.heap.size) (hf:M.Fit) (ht:TIn w Z c t) (hl:M.isLive t=true) (h6:t.n<=8) (hX:X<=18446744073709551615) :
  Calls Tryz.prog 117 #[.pointer (some ⟨m,0,none⟩),tabV t c,.int .u64 X] w fun e w'=>e=.returned (.tuple #[.bool (t.bit (X % 2 ^ t.n)),.int .i64 0])/\Upd [] w w':=by
 obtain ⟨ta,tc,rfl,_⟩:=row_nil_len ht.row;have hb:=boxT w (.int .i64 t.n) (.slice ta t.ws.length tc);have hu0:=(Upd.refl [] w).alloc (.cells #[.int .i64 t.n,.slice ta t.ws.length tc] 122 (0,0));have HU0:=Lib.hid hu0;have HI:=Lib.hid (islive_spec m M p Z _ t _ (h.keep0 hu0) (fun k hk=>Nat.lt_of_lt_of_le (hZ k hk) hu0.size) hf (ht.keep0 hu0))
 have HX:Hid (∀ z,Upd [] w z->Calls Tryz.prog 189 #[tabV t (.slice ta t.ws.length tc),.int .u64 X] z fun e w'=>e=.returned (.bool (t.bit (X % 2 ^ t.n)))/\Upd [] z w'):=fun z u=>reval_spec Z _ t X z (ht.keep0 u) h6 hX
 rw [hl] at HI;obtain ⟨vv,hvv⟩ : ∃ vv,t.bit (X % 2 ^ t.n)=vv:=⟨_,rfl⟩;rw [hvv] at HX ⊢;unfold tabV at HI HX ⊢;generalize t.ws.length=W at *;generalize t.n=n at *
 have HB:Hid (∀ x:World,Upd [] (w.alloc (.cells #[.int .i64 n,.slice ta W tc] 122 (0,0))) x->x.cell? ⟨w.heap.size,0,none⟩=some (.int .i64 n)/\x.cell? ⟨w.heap.size,1,none⟩=some (.slice ta W tc)):=fun x u=>⟨u.cell0 hb.1,u.cell0 hb.2⟩
 obtain ⟨b0,b1⟩:=hb;clear h hZ hf ht hl h6 hu0 hvv hX
 go_enter Tryz.func117,Tryz.ntmps117
 go_wp2_with fail;refine HI.out.mono ?_;rintro e w1 ⟨rfl,hu⟩;obtain ⟨z0,z1⟩:=HB.out _ hu;have HU1:=Lib.hid (HU0.out.trans hu);clear hu b0 b1;go_wp2_with fail;refine (HX.out _ HU1.out).mono ?_;rintro e w2 ⟨rfl,hu⟩;have HU2:=Lib.hid (HU1.out.trans hu);clear hu z0 z1;go_wp2_with fail;go_ret2;exact ⟨rfl,HU2.out⟩
theorem sats_const {n:Nat} (b:Bool):(constT n b).sats=if b then 2 ^ n else 0:=by
 show cntB _ (2 ^ n)=_
 rw [cntB_congr (Q:=fun _=>b) fun i hi=>mkT_bit _ hi,cntB_const]
def PathHyp (m:Nat) (M:MV) (p:MPtr) (Z:List Nat) (K:KV) (d:Nat):Prop :=
 ∀ (r:Nat) (c:Value) (t:TV) (w:World),ModIn w m M p Z->(∀ k,k∈Z->k<w.heap.size)->TIn w Z c t->t.n=K.vars->Names K r t->d<=K.dep r ->
  Calls Tryz.prog 192 #[.pointer (some ⟨m,0,none⟩),tabV t c] w fun e w'=>e=.returned (.int .u64 (K.way r:Nat))/\Upd [] w w'
theorem rpaths_const (m:Nat) (Z:List Nat) (c:Value) (t:TV) (b:Bool) (w:World) (ht:TIn w Z c t) (hZ:∀ k,k∈Z->k<w.heap.size) (h6:t.n<=8) (hc:t=constT t.n b) (hC:t.isC=true) :
  Calls Tryz.prog 192 #[.pointer (some ⟨m,0,none⟩),tabV t c] w fun e w'=>e=.returned (.int .u64 (if b then 1 else 0))/\Upd [] w w':=by
 obtain ⟨ta,tc,rfl,_⟩:=row_nil_len ht.row;have hb:=boxT w (.int .i64 t.n) (.slice ta t.ws.length tc);have hu0:=(Upd.refl [] w).alloc (.cells #[.int .i64 t.n,.slice ta t.ws.length tc] 122 (0,0));have HU0:=Lib.hid hu0;have HI:=Lib.hid (isconst_spec Z _ t _ (ht.keep0 hu0) (fun k hk=>Nat.lt_of_lt_of_le (hZ k hk) hu0.size));rw [hC] at HI
 have HS:Hid (∀ z,Upd [] w z->Calls Tryz.prog 191 #[tabV t (.slice ta t.ws.length tc)] z fun e w'=>e=.returned (.int .u64 (t.sats:Nat))/\Upd [] z w'):=fun z u=>rsats_spec Z _ t z (ht.keep0 u) h6
 have hs:t.sats=if b then 2 ^ t.n else 0:=by rw [hc];exact sats_const b
 have hsr:((t.sats:Nat):Int)/2 ^ t.n=if b then 1 else 0:=by
  rw [hs]
  cases b with
  | true =>
   show (((2 ^ t.n:Nat):Int)/2 ^ t.n)=1
   have e:(((2 ^ t.n:Nat)):Int)=2 ^ t.n:=by push_cast;rfl
   rw [e];exact Int.ediv_self (by have:=Nat.two_pow_pos t.n;omega)
  | false=>simp
 obtain ⟨vv,hvv⟩ : ∃ vv:Int,(if b then 1 else 0)=vv:=⟨_,rfl⟩;rw [hvv] at hsr ⊢;have HSR:=Lib.hid hsr
 have hn64:(t.n:Int)<64:=by omega
 generalize t.sats=S at *;unfold tabV at HI HS ⊢;generalize t.ws.length=W at *;generalize t.n=n at *
 have HB:Hid (∀ x:World,Upd [] (w.alloc (.cells #[.int .i64 n,.slice ta W tc] 122 (0,0))) x->x.cell? ⟨w.heap.size,0,none⟩=some (.int .i64 n)/\x.cell? ⟨w.heap.size,1,none⟩=some (.slice ta W tc)):=fun x u=>⟨u.cell0 hb.1,u.cell0 hb.2⟩
 obtain ⟨b0,b1⟩:=hb;clear ht hZ h6 hu0 hs hc hsr hvv
 go_enter Tryz.func192,Tryz.ntmps192
 go_wp2_with fail;refine HI.out.mono ?_;rintro e w1 ⟨rfl,hu⟩;have HU1:=Lib.hid hu;clear hu b0 b1;go_wp2_with fail
 go_region_held3 (fun z=>z.cell? ⟨w.heap.size,0,none⟩=some (.int .i64 n)/\z.cell? ⟨w.heap.size,1,none⟩=some (.slice ta W tc)) (first | exact HB.out _ HU1.out.drew | exact HB.out _ HU2.out) (first
  | (go_at_call 191;refine (HS.out _ (HU0.out.trans HU1.out).drew).mono ?_;rintro e w2 ⟨rfl,hu⟩;have HU2:=Lib.hid ((HU1.out.drew).trans hu);clear hu))
 all_goals go_wp2_with fail
 all_goals go_ret
 all_goals exact ⟨by rw [<- HSR.out];rfl,HU0.out.trans HU2.out⟩
theorem rpaths_node (m:Nat) (M:MV) (p:MPtr) (Z:List Nat) (c:Value) (t:TV) (v WL WR:Nat) (w:World) (h:ModIn w m M p Z) (hZ:∀ k,k∈Z->k<w.heap.size) (hf:M.Fit) (ht:TIn w Z c t) (htn:t.n=M.n) (hv:M.top t=some v) (hC:t.isC=false)
  (hL:∀ z c,Upd [] w z->TIn z Z c (cofT t v false)->Calls Tryz.prog 192 #[.pointer (some ⟨m,0,none⟩),tabV (cofT t v false) c] z fun e w'=>e=.returned (.int .u64 (WL:Nat))/\Upd [] z w')
  (hR:∀ z c,Upd [] w z->TIn z Z c (cofT t v true)->Calls Tryz.prog 192 #[.pointer (some ⟨m,0,none⟩),tabV (cofT t v true) c] z fun e w'=>e=.returned (.int .u64 (WR:Nat))/\Upd [] z w') (hw:WL+WR<=1099511627776) :
  Calls Tryz.prog 192 #[.pointer (some ⟨m,0,none⟩),tabV t c] w fun e w'=>e=.returned (.int .u64 ((WL+WR:Nat):Int))/\Upd [] w w':=by
 obtain ⟨ta,tc,rfl,_⟩:=row_nil_len ht.row;have hb:=boxT w (.int .i64 t.n) (.slice ta t.ws.length tc);have hu0:=(Upd.refl [] w).alloc (.cells #[.int .i64 t.n,.slice ta t.ws.length tc] 122 (0,0));have HU0:=Lib.hid hu0
 have HZ:Hid (∀ x:World,Upd [] w x->∀ k,k∈Z->k<x.heap.size):=fun x u k hk=>Nat.lt_of_lt_of_le (hZ k hk) u.size
 have HI:=Lib.hid (isconst_spec Z _ t _ (ht.keep0 hu0) (HZ.out _ hu0));rw [hC] at HI
 have HCH:Hid (∀ (x:World),Upd [] w x->Calls Tryz.prog 222 #[.pointer (some ⟨m,0,none⟩),tabV t (.slice ta t.ws.length tc)] x fun e w'=>ChildQ t v x e w'):=fun x u=>children_spec m M p Z _ t v x (h.keep0 u) (HZ.out x u) hf (ht.keep0 u) htn hv
 have HL:=Lib.hid hL;have HR:=Lib.hid hR
 have HNN:Hid (∀ (b:Bool),(cofT t v b).n=t.n):=fun _=>rfl
 have hww:IntKind.u64.wrap ((WL:Int)+(WR:Int))=((WL+WR:Nat):Int):=by
  rw [IntKind.wrap_u64];omega
 unfold tabV at HI HCH ⊢;generalize t.ws.length=W at *;obtain ⟨n,hn⟩ : ∃ n,t.n=n:=⟨_,rfl⟩;rw [hn] at hb HU0 HI HCH HNN ⊢
 have HB:Hid (∀ x:World,Upd [] (w.alloc (.cells #[.int .i64 n,.slice ta W tc] 122 (0,0))) x->x.cell? ⟨w.heap.size,0,none⟩=some (.int .i64 n)/\x.cell? ⟨w.heap.size,1,none⟩=some (.slice ta W tc)):=fun x u=>⟨u.cell0 hb.1,u.cell0 hb.2⟩
 obtain ⟨b0,b1⟩:=hb;obtain ⟨SW,hSW⟩ : ∃ SW,WL+WR=SW:=⟨_,rfl⟩;rw [hSW] at hww ⊢;clear h hZ hf ht htn hv hC hL hR hu0 hn hSW
 go_enter Tryz.func192,Tryz.ntmps192
 go_wp2_with fail;refine HI.out.mono ?_;rintro e w1 ⟨rfl,hu⟩;have HU1:=Lib.hid (HU0.out.trans hu);obtain ⟨z0,z1⟩:=HB.out _ hu;clear hu b0 b1;go_wp2_with fail;refine (HCH.out _ HU1.out).mono ?_;rintro e w2 hE;obtain ⟨c1,c2,rfl,h1,h2,hu⟩:=hE.ex;obtain ⟨la,lc,hlv,_⟩:=row_nil_len h1.row;obtain ⟨ga,gc,hgv,_⟩:=row_nil_len h2.row;subst hlv hgv;have HU2:=Lib.hid (HU1.out.trans hu);have t1:=h1.tin (HZ.out _ HU1.out);have t2:=h2.tin (HZ.out _ HU1.out)
 have e1:tabV (cofT t v false) (.slice la (cofT t v false).ws.length lc)=.agg #[.int .i64 n,.slice la (cofT t v false).ws.length lc]:=by unfold tabV;rw [HNN.out]
 have e2:tabV (cofT t v true) (.slice ga (cofT t v true).ws.length gc)=.agg #[.int .i64 n,.slice ga (cofT t v true).ws.length gc]:=by unfold tabV;rw [HNN.out]
 have HT:=Lib.hid (And.intro t1 t2)
 have HLL:Hid (∀ z,Upd [] w2 z->Calls Tryz.prog 192 #[.pointer (some ⟨m,0,none⟩),.agg #[.int .i64 n,.slice la (cofT t v false).ws.length lc]] z fun e w'=>e=.returned (.int .u64 (WL:Nat))/\Upd [] z w'):=fun z u=>by
  rw [<- e1];exact HL.out z _ (HU2.out.trans u) (t1.keep0 u)
 have HRR:Hid (∀ z,Upd [] w2 z->Calls Tryz.prog 192 #[.pointer (some ⟨m,0,none⟩),.agg #[.int .i64 n,.slice ga (cofT t v true).ws.length gc]] z fun e w'=>e=.returned (.int .u64 (WR:Nat))/\Upd [] z w'):=fun z u=>by
  rw [<- e2];exact HR.out z _ (HU2.out.trans u) (t2.keep0 u)
 rw [e1,e2];generalize (cofT t v false).ws.length=LW at *;generalize (cofT t v true).ws.length=GW at *;have hx1:=heap_alloc_new w2 (.cells #[.int .i64 n,.slice la LW lc] 122 (0,0));have hx2:=heap_alloc_new (w2.alloc (.cells #[.int .i64 n,.slice la LW lc] 122 (0,0))) (.cells #[.int .i64 n,.slice ga GW gc] 122 (0,0));have hx1':=(heap_alloc_old (w2.alloc (.cells #[.int .i64 n,.slice la LW lc] 122 (0,0))) (.cells #[.int .i64 n,.slice ga GW gc] 122 (0,0)) (heap_lt hx1)).trans hx1;rw [World.size_alloc] at hx2;have hu3:Upd [] w2 ((w2.alloc (.cells #[.int .i64 n,.slice la LW lc] 122 (0,0))).alloc (.cells #[.int .i64 n,.slice ga GW gc] 122 (0,0))):=((Upd.refl _ _).alloc _).alloc _;obtain ⟨w3,hw3⟩ : ∃ w3,(w2.alloc (.cells #[.int .i64 n,.slice la LW lc] 122 (0,0))).alloc (.cells #[.int .i64 n,.slice ga GW gc] 122 (0,0))=w3:=⟨_,rfl⟩;rw [hw3] at hx2 hx1' hu3;have HW3:=Lib.hid hw3;have HU3:=Lib.hid hu3
 have HX:Hid (∀ z,Upd [] w3 z->z.cell? ⟨w2.heap.size,0,none⟩=some (.int .i64 n)/\z.cell? ⟨w2.heap.size,1,none⟩=some (.slice la LW lc)/\z.cell? ⟨w2.heap.size+1,0,none⟩=some (.int .i64 n)/\z.cell? ⟨w2.heap.size+1,1,none⟩=some (.slice ga GW gc)):=fun z u =>
  ⟨u.cell0 (cell_at hx1' rfl),u.cell0 (cell_at hx1' rfl),u.cell0 (cell_at hx2 rfl),u.cell0 (cell_at hx2 rfl)⟩
 clear hE h1 h2 hu z0 z1 HI HCH e1 e2 t1 t2 hx1 hx1' hx2 hu3 hw3;go_upto_region 4 with fail;rw [HW3.out];generalize w2.heap.size=Bq at *
 go_region_held3 (fun z=>z.cell? ⟨Bq,0,none⟩=some (.int .i64 n)/\z.cell? ⟨Bq,1,none⟩=some (.slice la LW lc)/\z.cell? ⟨Bq+1,0,none⟩=some (.int .i64 n)/\z.cell? ⟨Bq+1,1,none⟩=some (.slice ga GW gc)) (first | exact HX.out _ (Upd.refl _ _).drew | exact HX.out _ HA2.out | exact HX.out _ HA1.out) (first
  | ((with_reducible refine (HLL.out _ (HU3.out.trans (Upd.refl _ _).drew)).mono ?_);rintro e w4 ⟨rfl,hu⟩;have HA1:=Lib.hid (((Upd.refl [] w3).drew).trans hu);clear hu)
  | ((with_reducible refine (HRR.out _ (HU3.out.trans HA1.out)).mono ?_);rintro e w5 ⟨rfl,hu⟩;have HA2:=Lib.hid (HA1.out.trans hu);clear hu))
 all_goals go_wp2_with fail
 all_goals go_ret
 all_goals exact ⟨rfl,HU2.out.trans (HU3.out.trans HA2.out)⟩
theorem Names.const {K:KV} (hk:K.Ok) {n:Nat} (b:Bool):Names K (if b then 1 else 0) (constT n b) :=
 ⟨hk.tk_const (by cases b <;> simp),fun y=>by rw [K.den_const (by cases b <;> simp),constT_fn];cases b <;> rfl⟩
theorem Names.isC {K:KV} (hk:K.Ok) (hu:K.Uni) {r:Nat} {t:TV} (h:Names K r t) (h2:2<=r):t.isC=false:=by
 have key:∀ b,t≠constT t.n b:=fun b e=>by
  have hb:=Names.const hk (n:=t.n) b;rw [<- e] at hb;have:=Names.eq hk hu h hb
  cases b <;> simp at this <;> omega
 unfold TV.isC
 simp [key]
theorem rpaths_spec (m:Nat) (M:MV) (p:MPtr) (Z:List Nat) (K:KV) (hk:K.Ok) (hu:K.Uni) (hs:Same K M) (hf:M.Fit) (h6:K.vars<=8):∀ (n d:Nat),K.vars+1-d<=n->PathHyp m M p Z K d
 | n,d,hn=>fun r c t w h hZ ht htn hnm hd=>by
  by_cases h2:2<=r
  ·obtain ⟨q,hq,hqt⟩:=ArenaV.tk_iff.1 hnm.1
   have hb:=hk.ord.below hk.wf h2 hq hqt;have hl:=hk.wf.dep_lt hk.ord h2 hnm.1;have hvr:=hk.wf.vr r q h2 hq hqt
   match n,hn with
   | 0,hn=>omega
   | n+1,hn =>
    have IH:=rpaths_spec m M p Z K hk hu hs hf h6 n (K.dep r+1) (by omega);rw [KV.way_node hk.wf hk.ord h2 hq hqt];have w1:=way_le hk K.vars q.lo (by omega) (hk.wf.cl r q h2 hq hqt).1;have w2:=way_le hk K.vars q.hi (by omega) (hk.wf.cl r q h2 hq hqt).2;have w3:(2:Nat) ^ K.vars<=2 ^ 8:=Nat.pow_le_pow_right (by omega) h6;have e8:(2:Nat) ^ 8=256:=rfl
    exact rpaths_node m M p Z c t q.var.toNat (K.way q.lo) (K.way q.hi) w h hZ hf ht (htn.trans hs.n.symm) (Names.top hs hk hu hnm ht.ok htn h2 hq hqt) (Names.isC hk hu hnm h2)
     (fun z c' u hc=>IH q.lo c' _ z (h.keep0 u) (fun k hk'=>Nat.lt_of_lt_of_le (hZ k hk') u.size) hc htn (by have:=Names.kid hk hnm htn h2 hq hqt false;simpa using this) hb.1)
     (fun z c' u hc=>IH q.hi c' _ z (h.keep0 u) (fun k hk'=>Nat.lt_of_lt_of_le (hZ k hk') u.size) hc htn (by have:=Names.kid hk hnm htn h2 hq hqt true;simpa using this) hb.2) (by omega)
  ·have hr:r=0\/r=1:=by omega
   obtain ⟨b,hb⟩ : ∃ b:Bool,r=if b then 1 else 0:=by
    rcases hr with rfl | rfl
    ·exact ⟨false,rfl⟩
    ·exact ⟨true,rfl⟩
   have hte:t=constT t.n b:=Names.teq (by rw [<- hb];exact hnm) (Names.const hk (n:=t.n) b) ht.ok (mkT_ok _ ht.ok.n16) rfl
   have hC:t.isC=true:=by
    unfold TV.isC;cases b
    ·simp [<- hte]
    ·simp [<- hte]
   have hway:((K.way r:Nat):Int)=if b then 1 else 0:=by
    rw [K.way_const (by omega),hb];cases b <;> rfl
   rw [hway];exact rpaths_const m Z c t b w ht hZ (by omega) hte hC
theorem docpaths_spec (m:Nat) (M:MV) (p:MPtr) (Z:List Nat) (c:Value) (t:TV) (r:Nat) (K:KV) (w:World) (hk:K.Ok) (hu:K.Uni) (hs:Same K M) (h:ModIn w m M p Z) (hZ:∀ k,k∈Z->k<w.heap.size) (hf:M.Fit) (ht:TIn w Z c t) (hl:M.isLive t=true) (h6:K.vars<=8) (htn:t.n=K.vars) (hnm:Names K r t) :
  Calls Tryz.prog 120 #[.pointer (some ⟨m,0,none⟩),tabV t c] w fun e w'=>e=.returned (.tuple #[.int .u64 (K.way r:Nat),.int .i64 0])/\Upd [] w w':=by
 obtain ⟨ta,tc,rfl,_⟩:=row_nil_len ht.row;have hb:=boxT w (.int .i64 t.n) (.slice ta t.ws.length tc);have hu0:=(Upd.refl [] w).alloc (.cells #[.int .i64 t.n,.slice ta t.ws.length tc] 122 (0,0));have HU0:=Lib.hid hu0;have HI:=Lib.hid (islive_spec m M p Z _ t _ (h.keep0 hu0) (fun k hk=>Nat.lt_of_lt_of_le (hZ k hk) hu0.size) hf (ht.keep0 hu0))
 have HX:Hid (∀ z,Upd [] w z->Calls Tryz.prog 192 #[.pointer (some ⟨m,0,none⟩),tabV t (.slice ta t.ws.length tc)] z fun e w'=>e=.returned (.int .u64 (K.way r:Nat))/\Upd [] z w'):=fun z u =>
  rpaths_spec m M p Z K hk hu hs hf h6 (K.vars+1) 0 (by omega) r _ t z (h.keep0 u) (fun k hk=>Nat.lt_of_lt_of_le (hZ k hk) u.size) (ht.keep0 u) htn hnm (Nat.zero_le _)
 rw [hl] at HI;obtain ⟨vv,hvv⟩ : ∃ vv:Int,((K.way r:Nat):Int)=vv:=⟨_,rfl⟩;rw [hvv] at HX ⊢;unfold tabV at HI HX ⊢;clear htn hnm;generalize t.ws.length=W at *;generalize t.n=n at *
 have HB:Hid (∀ x:World,Upd [] (w.alloc (.cells #[.int .i64 n,.slice ta W tc] 122 (0,0))) x->x.cell? ⟨w.heap.size,0,none⟩=some (.int .i64 n)/\x.cell? ⟨w.heap.size,1,none⟩=some (.slice ta W tc)):=fun x u=>⟨u.cell0 hb.1,u.cell0 hb.2⟩
 obtain ⟨b0,b1⟩:=hb;clear h hZ hf ht hl h6 hu0 hvv hk hu hs
 go_enter Tryz.func120,Tryz.ntmps120
 go_wp2_with fail;refine HI.out.mono ?_;rintro e w1 ⟨rfl,hu⟩;obtain ⟨z0,z1⟩:=HB.out _ hu;have HU1:=Lib.hid (HU0.out.trans hu);clear hu b0 b1;go_wp2_with fail;refine (HX.out _ HU1.out).mono ?_;rintro e w2 ⟨rfl,hu⟩;have HU2:=Lib.hid (HU1.out.trans hu);clear hu z0 z1;go_wp2_with fail;go_ret2;exact ⟨rfl,HU2.out⟩
theorem pow2_16 {n:Nat} (h:n<=16):1<=2 ^ n/\2 ^ n<=65536:=⟨Nat.two_pow_pos _,by
 calc 2 ^ n<=2 ^ 16:=Nat.pow_le_pow_right (by omega) h
  _=65536:=rfl⟩
theorem words_max {n:Nat}:max 1 (2 ^ n/64)=wordsN n:=by
 unfold wordsN
 by_cases h:n<=6
 ·rw [if_pos h]
  have:(2:Nat) ^ n<=2 ^ 6:=Nat.pow_le_pow_right (by omega) h;omega
 ·rw [if_neg h]
  have e:(2:Nat) ^ n=2 ^ (n-6)*64:=by
   have:n=(n-6)+6:=by omega
   conv=>lhs;rw [this,Nat.pow_add]
  have:=Nat.two_pow_pos (n-6);omega
theorem u64_nat {m:Nat} (h:m<=4294967296):IntKind.u64.wrap (m:Int)=(m:Int):=by rw [IntKind.wrap_u64];omega
theorem truwords_spec (n:Nat) (w:World) (hn:n≤16):Calls Tryz.prog 235 #[.int .i64 n] w fun e w'=>e=.returned (.int .i64 (wordsN n:Nat))∧w'=w:=by
  have hp:=pow2_16 hn;have hm:=words_max (n:=n)
  have hsh:IntKind.i64.wrap (2 ^ n)=((2 ^ n:Nat):Int):=by
    have h2:((2:Int) ^ n)=((2 ^ n:Nat):Int):=by push_cast; rfl
    rw [h2];exact IntWalk.i64_in _ (by omega)
  obtain ⟨N,hN⟩ : ∃ N,2 ^ n=N:=⟨_,rfl⟩;rw [hN] at hp hm hsh
  have hn64:(n:Int) < 64:=by omega
  have hdv:wrap64 ((N:Int) / 64)=((N / 64:Nat):Int):=by rw [IntWalk.wrap64_in _ (by omega)]; omega
  have hdv2:(N:Int) / 64=((N / 64:Nat):Int):=by omega
  have hmx:max (1:Int) ((N / 64:Nat):Int)=((wordsN n:Nat):Int):=by rw [← hm]; omega
  have HMX:=Lib.hid hmx;obtain ⟨M,hM⟩ : ∃ M,N / 64=M:=⟨_,rfl⟩;rw [hM] at hdv hdv2 HMX;clear hN hm hn hmx hM;generalize wordsN n=X at *
  go_enter Tryz.func235,Tryz.ntmps235
  go_wp2_with fail
  all_goals first
    | (go_ret
       exact ⟨by rw [← HMX.out]; rfl,rfl⟩)
    | (have e:(X:Int)=(M:Int):=by rw [← HMX.out]; omega
       go_ret
       exact ⟨by rw [e]; rfl,rfl⟩)
    | (have e:(X:Int)=1:=by rw [← HMX.out]; omega
       go_ret
       exact ⟨by rw [e]; rfl,rfl⟩)
def fullI (n:Nat):Int:=if 6<=n then 18446744073709551615 else 2 ^ 2 ^ n-1
theorem fullI_bits (n:Nat):U64 (fullI n)/\∀ i,nb (fullI n) i=(decide (i<64)&&decide (i<2 ^ n)):=by
 unfold fullI
 by_cases h:6<=n
 ·rw [if_pos h]
  have h2:(2:Nat) ^ 6<=2 ^ n:=Nat.pow_le_pow_right (by omega) h;refine ⟨by unfold U64;omega,fun i=>?_⟩;have e:(18446744073709551615:Int)=((2 ^ 64-1:Nat):Int):=rfl;rw [e,nb_cast,Nat.testBit_two_pow_sub_one]
  by_cases hi:i<64
  ·have:i<2 ^ n:=by omega
   simp [hi,this]
  ·simp [hi]
 ·rw [if_neg h]
  have h5:n<=5:=by omega
  have h2:(2:Nat) ^ n<=2 ^ 5:=Nat.pow_le_pow_right (by omega) h5;have hp:(1:Nat)<=2 ^ 2 ^ n:=Nat.two_pow_pos _;have h3:(2:Nat) ^ 2 ^ n<=2 ^ 2 ^ 5:=Nat.pow_le_pow_right (by omega) h2
  have e:((2:Int) ^ 2 ^ n-1)=((2 ^ 2 ^ n-1:Nat):Int):=by
   have:((2:Int) ^ 2 ^ n)=((2 ^ 2 ^ n:Nat):Int):=by push_cast;rfl
   rw [this];omega
  rw [e];refine ⟨?_,fun i=>?_⟩
  ·have:(2:Nat) ^ 2 ^ 5=4294967296:=rfl
   unfold U64;omega
  ·rw [nb_cast,Nat.testBit_two_pow_sub_one]
   by_cases hi:i<2 ^ n
   ·have:i<64:=by omega
    simp [hi,this]
   ·simp [hi]
theorem trufull_spec (n:Nat) (w:World) (hn:n<=16):Calls Tryz.prog 236 #[.int .i64 n] w fun e w'=>e=.returned (.int .u64 (fullI n))/\w'=w:=by
 by_cases h:6<=n
 ·have hd:decide ((6:Int)<=(n:Int))=true:=by simp;omega
  have HE:Hid (fullI n=18446744073709551615):=by show fullI n=_;unfold fullI;rw [if_pos h]
  go_enter Tryz.func236,Tryz.ntmps236
  go_wp2_with fail;go_ret;exact ⟨by rw [HE.out];rfl,rfl⟩
 ·have hd:decide ((6:Int)<=(n:Int))=false:=by simp;omega
  have hn64:(n:Int)<64:=by omega
  have h5:n<=5:=by omega
  have h2:(2:Nat) ^ n<=32:=by
   calc 2 ^ n<=2 ^ 5:=Nat.pow_le_pow_right (by omega) h5
    _=32:=rfl
  have hsh:IntKind.u64.wrap (2 ^ n)=((2 ^ n:Nat):Int):=by
   have e:((2:Int) ^ n)=((2 ^ n:Nat):Int):=by push_cast;rfl
   rw [e,u64_nat (by omega)]
  obtain ⟨N,hN⟩ : ∃ N,2 ^ n=N:=⟨_,rfl⟩;rw [hN] at h2 hsh
  have hN64:(N:Int)<64:=by omega
  have h3:(1:Nat)<=2 ^ N/\2 ^ N<=4294967296:=⟨Nat.two_pow_pos _,by
   calc 2 ^ N<=2 ^ 32:=Nat.pow_le_pow_right (by omega) h2
    _=4294967296:=rfl⟩
  have hsh2:IntKind.u64.wrap (2 ^ N)=((2 ^ N:Nat):Int):=by
   have e:((2:Int) ^ N)=((2 ^ N:Nat):Int):=by push_cast;rfl
   rw [e,u64_nat h3.2]
  have HE:Hid (fullI n=((2 ^ N:Nat):Int)-1):=by
   show fullI n=_
   have e:((2:Int) ^ 2 ^ n)=((2 ^ N:Nat):Int):=by rw [hN];push_cast;rfl
   unfold fullI;rw [if_neg h,e]
  clear hN h;generalize 2 ^ N=M at *
  go_enter Tryz.func236,Tryz.ntmps236
  go_wp2_with fail;go_ret;exact ⟨by rw [HE.out];rfl,rfl⟩
def colI (v i:Nat):Int:=((idx 64 fun j=>(64*i+j).testBit v:Nat):Int)
theorem idx64_u64 (y:Nat->Bool):U64 ((idx 64 y:Nat):Int):=by
 have:=idx_lt 64 y
 unfold U64;omega
theorem colI_bits (v i:Nat):U64 (colI v i)/\∀ j,j<64->nb (colI v i) j=(64*i+j).testBit v:=by
 refine ⟨idx64_u64 _,fun j hj=>?_⟩;unfold colI;rw [nb_cast,idx_bit]
 simp [hj]
theorem col_and:∀ j:Nat,j<64->∀ v:Nat,v<6->bits BinOp.and IntKind.i64 ((j:Int)/2 ^ v) 1=if j.testBit v then 1 else 0:=by decide +kernel
def colP (v j:Nat):Int:=((idx j fun k=>k.testBit v:Nat):Int)
theorem idx_le64 {n:Nat} (hn:n<=64) (y:Nat->Bool):U64 ((idx n y:Nat):Int):=by
 have h1:=idx_lt n y;have h2:(2:Nat) ^ n<=2 ^ 64:=Nat.pow_le_pow_right (by omega) hn
 unfold U64;omega
theorem colP_step {v j:Nat} (hj:j<64):bits BinOp.or IntKind.u64 (colP v j) (IntKind.u64.wrap ((if j.testBit v then 1 else 0)*2 ^ j))=colP v (j+1):=by
 have a:U64 (colP v j):=idx_le64 (n:=j) (by omega) fun k=>k.testBit v
 refine nb_ext (bits_u64 _ _ _) (idx_le64 (n:=j+1) (by omega) _) fun i hi=>?_
 rw [nb_or a (wrap_u64 _)];unfold colP;rw [nb_cast,nb_cast,idx_bit,idx_bit]
 cases hb:j.testBit v with
 | true =>
  have e:IntKind.u64.wrap ((if true=true then 1 else 0)*2 ^ j)=IntKind.u64.wrap (2 ^ j):=by simp
  rw [e,nb_pow hj]
  by_cases h1:i<j
  ·simp [h1,show i<j+1 by omega,show j≠i by omega]
  ·by_cases h2:i=j
   ·subst h2;simp [hb]
   ·simp [h1,show ¬ i<j+1 by omega,show j≠i by omega]
 | false =>
  have e:IntKind.u64.wrap ((if false=true then 1 else 0)*2 ^ j)=0:=by simp;rfl
  rw [e,nb_zero]
  by_cases h1:i<j
  ·simp [h1,show i<j+1 by omega]
  ·by_cases h2:i=j
   ·subst h2;simp [hb]
   ·simp [h1,show ¬ i<j+1 by omega]
theorem trucol_spec (v i:Nat) (w:World) (hv:v<16) (hi:i<1024):Calls Tryz.prog 200 #[.int .i64 v,.int .i64 i] w fun e w'=>e=.returned (.int .u64 (colI v i))/\w'=w:=by
 by_cases h6:6<=v
 ·have hd:decide ((6:Int)<=(v:Int))=true:=by simp;omega
  obtain ⟨u,hu⟩ : ∃ u,v=u+6:=⟨v-6,by omega⟩
  have hvu:(v:Int)-6=(u:Int):=by omega
  have hu64:(u:Int)<64:=by omega
  have hvu2:wrap64 ((v:Int)-6)=(u:Int):=by rw [IntWalk.wrap64_in _ (by omega)];omega
  have hci:IntKind.u64.wrap (i:Int)=(i:Int):=u64_nat (by omega)
  have hbt:bits BinOp.and IntKind.u64 ((i:Int)/2 ^ u) 1=if i.testBit u then 1 else 0:=by
   have h1:U64 (i:Int):=by unfold U64;omega
   have h2:=nb_shr h1 u
   refine nb_ext (bits_u64 _ _ _) (by split <;> (unfold U64;omega)) fun j hj=>?_
   rw [nb_and (h2 0).1 (by unfold U64;omega),(h2 j).2,nb_cast]
   have e1:nb 1 j=decide (j=0):=by
    show (1:Nat).testBit j=_
    cases j with
    | zero=>rfl
    | succ j=>simp [Nat.testBit_succ]
   rw [e1]
   by_cases hj0:j=0
   ·subst hj0
    rw [Nat.zero_add]
    cases i.testBit u <;> simp [nb]
   ·cases i.testBit u
    ·simp [hj0,nb]
    ·simp only [hj0,if_true,decide_false,Bool.and_false]
     rw [e1];simp [hj0]
  have HE:Hid (colI v i=if i.testBit u then 18446744073709551615 else 0):=by
   show _=_
   have hc:=colI_bits v i
   refine nb_ext hc.1 (by split <;> (unfold U64;omega)) fun j hj=>?_
   rw [hc.2 j hj]
   have e:(64*i+j).testBit v=i.testBit u:=by
    have h3:(64*i+j)/2 ^ 6=i:=by omega
    have h4:=Nat.testBit_div_two_pow (n:=6) (64*i+j) u;rw [h3] at h4;rw [h4,hu]
   rw [e]
   cases i.testBit u with
   | true =>
    rw [if_pos rfl];have e2:(18446744073709551615:Int)=((2 ^ 64-1:Nat):Int):=rfl
    rw [e2,nb_cast,Nat.testBit_two_pow_sub_one];simp [hj]
   | false=>simp [nb]
  clear hu h6
  cases hb:i.testBit u with
  | true =>
   rw [hb] at hbt HE
   simp only [if_true] at hbt
   clear hb
   go_enter Tryz.func200,Tryz.ntmps200
   go_wp2_with fail;go_ret;exact ⟨by rw [HE.out];rfl,rfl⟩
  | false =>
   rw [hb] at hbt HE
   simp only [Bool.false_eq_true,if_false] at hbt
   clear hb
   go_enter Tryz.func200,Tryz.ntmps200
   go_wp2_with fail;go_ret;exact ⟨by rw [HE.out];rfl,rfl⟩
 ·have hd:decide ((6:Int)<=(v:Int))=false:=by simp;omega
  have hv6:v<6:=by omega
  have hv64:(v:Int)<64:=by omega
  have HE:Hid (colP v 64=colI v i):=by
   show _=_
   have hc:=colI_bits v i
   refine nb_ext (idx_le64 (Nat.le_refl _) _) hc.1 fun j hj=>?_
   rw [hc.2 j hj];unfold colP;rw [nb_cast,idx_bit]
   have e:(64*i+j).testBit v=j.testBit v:=by
    have h1:=Nat.testBit_mod_two_pow (64*i+j) 6 v;rw [show (64*i+j) % 2 ^ 6=j by omega] at h1
    rw [h1];simp [hv6]
   simp [hj,e]
  clear h6
  go_enter Tryz.func200,Tryz.ntmps200
  go_wp2_with fail
  go_loopg [5,16] 64 (fun gg s5 s16 wr=>∃ j:Nat,64-j=gg/\j<=64/\s16=.int .i64 j/\s5=.int .u64 (colP v j)/\wr=w)
  case atStart=>exact ⟨0,by omega,by omega,rfl,rfl,rfl⟩
  case round =>
   obtain ⟨j,rfl,hj,rfl,rfl,rfl⟩:=hrel
   by_cases hlt:j<64
   ·have hil:(j:Int)<64:=by omega
    have ha:=col_and j hlt v hv6;have HS:=Lib.hid (colP_step (v:=v) hlt)
    cases hb:j.testBit v with
    | true =>
     rw [hb] at ha HS
     simp only [if_true] at ha HS
     rw [Int.one_mul] at HS;clear hb;go_wp2_with fail
     go_roundg (64-(j+1))
     case measure=>omega
     case rel=>exact ⟨j+1,rfl,by omega,by simp,by first | (rw [<- HS.out];rfl) | rw [<- HS.out],rfl⟩
    | false =>
     rw [hb] at ha HS
     simp only [Bool.false_eq_true,if_false] at ha HS
     rw [Int.zero_mul] at HS;clear hb;go_wp2_with fail
     go_roundg (64-(j+1))
     case measure=>omega
     case rel=>exact ⟨j+1,rfl,by omega,by simp,by first | (rw [<- HS.out];rfl) | rw [<- HS.out],rfl⟩
   ·obtain rfl:j=64:=by omega
    have hil:¬ ((64:Int)<64):=by omega
    go_wp2_with fail;go_ret;exact ⟨by rw [<- HE.out];rfl,rfl⟩
end Go.Proofs.YtfkopmhpppeheaaGreat
