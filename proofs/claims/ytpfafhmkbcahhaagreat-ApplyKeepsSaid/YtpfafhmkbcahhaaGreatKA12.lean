import Derived.Test.YtpfafhmkbcahhaaGreatKA7
import Derived.Test.YtpfafhmkbcahhaaGreatKA11
import Derived.Test.YtpfafhmkbcahhaaGreatKA8
import Derived.Deep.QuietTactic
set_option maxRecDepth 100000
set_option maxHeartbeats 1600000
namespace Go.Proofs.YtpfafhmkbcahhaaGreat
open Go.RowKit Go.Maps Go.ChangeMaps Go.WideShapes
def KV.rootsI (K:KV) (i:Nat):List Nat:=(List.range i).filter fun r=>decide (0<K.hold r)
def KV.roots (K:KV):List Nat:=K.rootsI K.holds.length
theorem KV.rootsI_succ (K:KV) (i:Nat):K.rootsI (i+1)=if 0<K.hold i then K.rootsI i++[i] else K.rootsI i:=by
 unfold KV.rootsI;rw [List.range_succ,List.filter_append]
 by_cases h:0<K.hold i
 ·simp [h]
 ·simp [h]
theorem KV.rootsI_len (K:KV) (i:Nat):(K.rootsI i).length<=i:=by
 have:=List.length_filter_le (fun r=>decide (0<K.hold r)) (List.range i)
 simpa [KV.rootsI] using this
theorem KV.mem_roots {K:KV} {r:Nat}:r∈K.roots↔0<K.hold r:=by
 simp only [KV.roots,KV.rootsI,List.mem_filter,List.mem_range,decide_eq_true_eq]
 refine ⟨fun h=>h.2,fun h=>⟨?_,h⟩⟩
 by_cases hl:r<K.holds.length
 ·exact hl
 ·have:K.hold r=0:=by
   unfold KV.hold
   rw [List.getD_eq_getElem?_getD,List.getElem?_eq_none (by omega)];rfl
  omega
theorem KV.roots_nodup (K:KV):K.roots.Nodup:=List.Pairwise.filter _ List.nodup_range
theorem roots_spec (b:Nat) (K:KV) (T:List DM) (q:KPtr) (w:World) (h:KerIn w b K T q) :
  Calls Tryz.prog 51 #[.pointer (some ⟨b,0,none⟩)] w fun e w'=>∃ v:Value,e=.returned v/\w'.ownsRow w.heap.size 54 1 v K.roots.length (flatRefs K.roots)/\Upd [] w w':=by
 have hsz:K.holds.length<=1048576:=by
  have h1:=h.ok.wf.len;have h2:=h.ok.wf.ul;have h3:=h.ok.wf.ok.lp;have h4:=h.ok.wf.ok.pm;omega
 obtain ⟨fa,fc,hhv,_⟩:=row_nil_len h.mem.hs
 have c3:w.cell? ⟨b,3,none⟩=some (.slice fa K.holds.length fc):=by rw [<- hhv];exact cell_at h.mem.blk rfl
 have hrow:=h.mem.hs;rw [hhv] at hrow;have HROW:=Lib.hid hrow;obtain ⟨ti,hi0,hz0,hz1',hz2⟩:=info_parts Tryz.infoRefA;have HI:=Lib.hid hi0;have HZ:=Lib.hid hz0;have HZ1:=Lib.hid hz1';have HZ2:=Lib.hid hz2;have HHM:=Lib.hid h.ok.wf.hm;clear h hhv hrow hi0 hz0 hz1' hz2
 go_enter Tryz.func51,Tryz.ntmps51
 go_wp2_with fail
 go_loopg [3,14] K.holds.length (fun g s3 s14 wr=>∃ i:Nat,K.holds.length-i=g/\i<=K.holds.length/\s14=.int .i64 i/\wr.ownsRow w.heap.size 54 1 s3 (K.rootsI i).length (flatRefs (K.rootsI i))/\Upd [] w wr)
 case atStart=>exact ⟨0,by omega,by omega,rfl,World.ownsRow_nil _ _ _ _,Upd.refl _ _⟩
 case round =>
  obtain ⟨i,rfl,hi,rfl,ho,hU⟩:=hrel
  by_cases hlt:i<K.holds.length
  ·obtain ⟨g,rfl⟩:=row_some HROW.out (by omega)
   have hr:=row_keep HROW.out fun k hk=>hU.block k (HROW.out.lt k hk).2 (by simp)
   have ch:wr.cell? ⟨g,i,none⟩=some (.int .i32 (K.hold i)):=row_cell hr (by simp [flat32,KV.hold,hlt])
   have hil:(i:Int)<(K.holds.length:Int):=by omega
   have HU:=Lib.hid hU
   have hw32:i<=4294967295:=by omega
   by_cases h0:0<K.hold i
   ·have HS:Hid (K.rootsI (i+1)=K.rootsI i++[i]):=by
     show K.rootsI (i+1)=_
     rw [K.rootsI_succ,if_pos h0]
    have hln:=K.rootsI_len i;obtain ⟨va,vc,hv,_⟩:=row_nil_len ho;subst hv;have HO:=Lib.hid ho
    have hd:(0:Int)<(K.hold i:Int):=by omega
    have HC2:Hid (∀ u,u∈[Value.int .u32 i]->u.oneCell'=true):=by intro u hu;simp at hu;subst hu;rfl
    have hsz2:=hU.size
    have hmod:(i:Int) % 4294967296=i:=by omega
    have hbs:w.heap.size<=(wr.alloc (.cells #[.int .u32 i] 54 (0,0))).heap.size:=by rw [World.size_alloc];omega
    clear ho hU hr
    go_wp2_with (at_builtin;go_must (refine wpList_append_lies _ rfl (.tmp 21) (.tmp 24) 28 rfl w.heap.size 54 ti _ 1 4 Tryz.underlying28 HI.out HZ.out HZ1.out HZ2.out (by rfl) (by decide) _ (K.rootsI i).length (flatRefs (K.rootsI i)) rfl (HO.out.alloc _) ⟨wr.heap.size,0,none⟩ 1 1 [.int .u32 i] rfl rfl ?c1 HC2.out (by omega) (by unfold maxLen;omega) (by omega) hbs _ rfl ?_))
    case c1=>exact World.news_of_block (heap_alloc_new wr (.cells #[.int .u32 i] 54 (0,0)))
    intro g5 cap w5 hown hgr hat hlt5
    have HE:Hid (w5.ownsRow w.heap.size 54 1 (.slice (some ⟨g5,0,none⟩) ((K.rootsI i).length+1) cap) (K.rootsI (i+1)).length (flatRefs (K.rootsI (i+1)))/\Upd [] w w5):=by
     rw [HS.out];refine ⟨by simpa [flatRefs] using hown,(HU.out.alloc _).grown hgr fun k hk=>.inr ?_⟩;exact (HO.out.lt k hk).1
    clear hown hgr hat hlt5;go_wp2_with fail
    go_roundg (K.holds.length-(i+1))
    case measure=>omega
    case rel=>exact ⟨i+1,rfl,by omega,by simp,HE.out.1,HE.out.2⟩
   ·have HS:Hid (K.rootsI (i+1)=K.rootsI i):=by
     show K.rootsI (i+1)=_
     rw [K.rootsI_succ,if_neg h0]
    have hd:¬ ((0:Int)<(K.hold i:Int)):=by omega
    have hd2:decide ((0:Int)<(K.hold i:Int))=false:=by simp;omega
    have HO:=Lib.hid ho;clear ho hU hr;go_wp2_with fail
    go_roundg (K.holds.length-(i+1))
    case measure=>omega
    case rel=>exact ⟨i+1,rfl,by omega,by simp,by rw [HS.out];exact HO.out,HU.out⟩
  ·obtain rfl:i=K.holds.length:=by omega
   have hil:¬ ((K.holds.length:Int)<(K.holds.length:Int)):=by omega
   have HE:=Lib.hid (And.intro ho hU);clear ho hU;go_wp2_with fail;go_ret;exact ⟨_,rfl,HE.out⟩
theorem Tryz.infoU64:(Tryz.prog.info? 96).map (fun i=>(i.zero,i.size,i.bytes))=some (some (.int .u64 0),1,8):=by kernel_rfl
def flatU (l:List Int):List Value:=l.map fun n=>Value.int .u64 n
def bitT (s:Int) (v:Nat):Bool:=bits BinOp.and IntKind.u64 (s/2 ^ v) 1 == 1
theorem madeU (n:Nat):(madeCells #[Value.int .u64 0] n).toList=List.replicate n (Value.int .u64 0):=by
 apply List.ext_getElem?
 intro i
 by_cases hi:i<n
 ·simp [madeCells,hi,Nat.mod_one]
 ·simp [madeCells,hi]
def U64 (x:Int):Prop:=0<=x/\x<18446744073709551616
theorem wrap_u64 (n:Int):U64 (IntKind.u64.wrap n):=by
 have e:IntKind.u64.wrap n=n % 18446744073709551616:=rfl
 rw [e];unfold U64;omega
theorem bits_u64 (op:BinOp) (x y:Int):U64 (bits op IntKind.u64 x y):=wrap_u64 _
def nb (x:Int) (i:Nat):Bool:=x.toNat.testBit i
theorem toNat_bv {x:Int} (h:U64 x):(BitVec.ofInt 64 x).toNat=x.toNat:=by
 unfold U64 at h;rw [BitVec.toNat_ofInt]
 have:x % (2 ^ 64:Nat)=x:=by omega
 rw [this]
theorem nb_bv {x:Int} (h:U64 x) (i:Nat):nb x i=(BitVec.ofInt 64 x).getLsbD i:=by
 unfold nb;rw [<- toNat_bv h,BitVec.testBit_toNat]
theorem nb_of_bv (B:BitVec 64) (i:Nat):nb ((B.toNat:Int) % 18446744073709551616) i=B.getLsbD i:=by
 have h:=B.isLt
 have:((B.toNat:Int) % 18446744073709551616).toNat=B.toNat:=by omega
 unfold nb;rw [this,BitVec.testBit_toNat]
theorem nb_or {x y:Int} (hx:U64 x) (hy:U64 y) (i:Nat):nb (bits BinOp.or IntKind.u64 x y) i=(nb x i||nb y i):=by
 rw [nb_bv hx,nb_bv hy,<- BitVec.getLsbD_or];exact nb_of_bv (BitVec.ofInt 64 x ||| BitVec.ofInt 64 y) i
theorem nb_and {x y:Int} (hx:U64 x) (hy:U64 y) (i:Nat):nb (bits BinOp.and IntKind.u64 x y) i=(nb x i&&nb y i):=by
 rw [nb_bv hx,nb_bv hy,<- BitVec.getLsbD_and];exact nb_of_bv (BitVec.ofInt 64 x &&& BitVec.ofInt 64 y) i
theorem nb_andNot {x y:Int} (hx:U64 x) (hy:U64 y) {i:Nat} (hi:i<64):nb (bits BinOp.andNot IntKind.u64 x y) i=(nb x i&&!nb y i):=by
 rw [nb_bv hx,nb_bv hy];have e:nb (bits BinOp.andNot IntKind.u64 x y) i=(BitVec.ofInt 64 x &&& ~~~BitVec.ofInt 64 y).getLsbD i:=nb_of_bv _ i;rw [e,BitVec.getLsbD_and,BitVec.getLsbD_not,decide_eq_true hi,Bool.true_and]
theorem nb_pow {n:Nat} (hn:n<64) (i:Nat):nb (IntKind.u64.wrap (2 ^ n)) i=decide (n=i):=by
 have e:IntKind.u64.wrap ((2:Int) ^ n)=(2:Int) ^ n % 18446744073709551616:=rfl;have h1:(2:Nat) ^ n<2 ^ 64:=Nat.pow_lt_pow_right (by omega) hn
 have h2:((2:Int) ^ n)=((2 ^ n:Nat):Int):=by push_cast;rfl
 have h3:((2:Int) ^ n % 18446744073709551616).toNat=2 ^ n:=by rw [h2];generalize (2:Nat) ^ n=m at h1 ⊢;omega
 rw [e];unfold nb;rw [h3,Nat.testBit_two_pow]
theorem nb_zero (i:Nat):nb 0 i=false:=by simp [nb]
theorem nb_ext {x y:Int} (hx:U64 x) (hy:U64 y) (h:∀ i,i<64->nb x i=nb y i):x=y:=by
 have:x.toNat=y.toNat:=by
  apply Nat.eq_of_testBit_eq
  intro i
  by_cases hi:i<64
  ·exact h i hi
  ·have l:∀ z:Int,U64 z->z.toNat.testBit i=false:=fun z hz=>by
    apply Nat.testBit_lt_two_pow
    have h1:(2:Nat) ^ 64<=2 ^ i:=Nat.pow_le_pow_right (by omega) (by omega)
    unfold U64 at hz;omega
   rw [l x hx,l y hy]
 unfold U64 at hx hy;omega
theorem bitT_nb {x:Int} (hx:U64 x) (v:Nat):bitT x v=nb x v:=by
 obtain ⟨n,rfl⟩ : ∃ n:Nat,x=(n:Int):=⟨x.toNat,by unfold U64 at hx;omega⟩
 have hn:n<18446744073709551616:=by unfold U64 at hx;omega
 have e:((n:Int)/2 ^ v)=((n/2 ^ v:Nat):Int):=by push_cast;rfl
 have hu:U64 ((n:Int)/2 ^ v):=by
  rw [e];have:=Nat.div_le_self n (2 ^ v);generalize n/2 ^ v=m at this ⊢;unfold U64;omega
 have h1:U64 1:=by unfold U64;omega
 have hbit:nb ((n:Int)/2 ^ v) 0=nb (n:Int) v:=by
  rw [e];unfold nb
  simp only [Int.toNat_natCast]
  rw [Nat.testBit_div_two_pow,Nat.zero_add]
 have h2:∀ i,nb (bits BinOp.and IntKind.u64 ((n:Int)/2 ^ v) 1) i=(nb ((n:Int)/2 ^ v) i&&decide (i=0)):=fun i=>by
  rw [nb_and hu h1]
  congr 1
  have:nb 1 i=decide (0=i):=nb_pow (n:=0) (by omega) i
  rw [this];by_cases h:i=0 <;> simp [h];omega
 have hW:=bits_u64 BinOp.and ((n:Int)/2 ^ v) 1;unfold bitT
 cases hb:nb (n:Int) v with
 | true =>
  have:bits BinOp.and IntKind.u64 ((n:Int)/2 ^ v) 1=1:=nb_ext hW h1 fun i _=>by
   have e1:nb 1 i=decide (0=i):=nb_pow (n:=0) (by omega) i;rw [h2,e1]
   by_cases h:i=0
   ·subst h;rw [hbit,hb];rfl
   ·simp [h];omega
  rw [this];rfl
 | false =>
  have:bits BinOp.and IntKind.u64 ((n:Int)/2 ^ v) 1=0:=nb_ext hW (by unfold U64;omega) fun i _=>by
   rw [h2,nb_zero]
   by_cases h:i=0
   ·subst h;rw [hbit,hb];rfl
   ·simp [h]
  rw [this];rfl
def Hangs (t:(Nat->Bool)->Bool) (v:Nat):Prop:=∃ y,t (upd y v true)≠t (upd y v false)
end Go.Proofs.YtpfafhmkbcahhaaGreat
namespace Go.Proofs.YtpfafhmkbcahhaaGreat
structure TV where
 n:Nat
 ws:List Int
deriving DecidableEq
def wordsN (n:Nat):Nat:=if n<=6 then 1 else 2 ^ (n-6)
structure TV.Ok (t:TV):Prop where
 n16:t.n<=16
 len:t.ws.length=wordsN t.n
 u:∀ x,x∈t.ws->U64 x
 low:t.n<6->∀ x,x∈t.ws->∀ i,2 ^ t.n<=i->nb x i=false
def TV.bit (t:TV) (x:Nat):Bool:=nb (t.ws.getD (x/64) 0) (x % 64)
theorem nb_high {x:Int} (h:U64 x) {i:Nat} (hi:64<=i):nb x i=false:=by
 apply Nat.testBit_lt_two_pow
 have h1:(2:Nat) ^ 64<=2 ^ i:=Nat.pow_le_pow_right (by omega) hi
 unfold U64 at h;omega
theorem wordsN_pos (n : Nat) : 0 < wordsN n := by unfold wordsN; split; · omega
                                                  · exact Nat.two_pow_pos _
theorem wordsN_mul {n:Nat} (h:6<=n):wordsN n*64=2 ^ n:=by
 unfold wordsN;split
 ·obtain rfl:n=6:=by omega
  rfl
 ·have:n=(n-6)+6:=by omega
  rw [this,Nat.pow_add];simp
theorem TV.Ok.word {t:TV} (h:t.Ok) {i:Nat} (hi:i<wordsN t.n):U64 (t.ws.getD i 0)/\t.ws.getD i 0∈t.ws/\t.ws[i]?=some (t.ws.getD i 0):=by
 have hl:i<t.ws.length:=by rw [h.len];exact hi
 have e:t.ws[i]?=some (t.ws.getD i 0):=by rw [List.getD_eq_getElem?_getD,List.getElem?_eq_getElem hl];rfl
 have hm:=List.mem_of_getElem? e;exact ⟨h.u _ hm,hm,e⟩
theorem div64_lt {n x:Nat} (hx:x<2 ^ n):x/64<wordsN n:=by
 by_cases h:6<=n
 ·have:=wordsN_mul h;omega
 ·have:(2:Nat) ^ n<=2 ^ 6:=Nat.pow_le_pow_right (by omega) (by omega)
  unfold wordsN;rw [if_pos (by omega)];omega
theorem TV.ext {t u:TV} (ht:t.Ok) (hu:u.Ok) (hn:t.n=u.n) (h:∀ x,x<2 ^ t.n->t.bit x=u.bit x):t=u:=by
 obtain ⟨n,ws⟩:=t;obtain ⟨m,vs⟩:=u
 simp only at hn;subst hn
 congr 1
 apply List.ext_getElem?
 intro i
 by_cases hi:i<wordsN n
 ·obtain ⟨a1,a2,a3⟩:=ht.word (i:=i) hi
  obtain ⟨b1,b2,b3⟩:=hu.word (i:=i) hi
  show ws[i]?=vs[i]?
  have a3':ws[i]?=some (ws.getD i 0):=a3;have b3':vs[i]?=some (vs.getD i 0):=b3;rw [a3',b3']
  congr 1
  refine nb_ext a1 b1 fun j hj=>?_
  by_cases h6:6<=n
  ·have hw:=wordsN_mul h6
   have:=h (64*i+j) (by show 64*i+j<2 ^ n;omega);unfold TV.bit at this;rw [show (64*i+j)/64=i by omega,show (64*i+j) % 64=j by omega] at this;exact this
  ·have hi0:i=0:=by unfold wordsN at hi;rw [if_pos (by omega)] at hi;omega
   subst hi0
   by_cases hj2:j<2 ^ n
   ·have:=h j hj2
    unfold TV.bit at this;rw [show j/64=0 by omega,show j % 64=j by omega] at this;exact this
   ·rw [ht.low (by simpa using h6) _ a2 j (by simpa using hj2),hu.low (by simpa using h6) _ b2 j (by simpa using hj2)]
 ·have e1:=ht.len
  have e2:=hu.len
  simp only at e1 e2
  rw [List.getElem?_eq_none (by omega),List.getElem?_eq_none (by omega)]
def idx:Nat->(Nat->Bool)->Nat
 | 0,_=>0
 | n+1,y=>idx n y+if y n then 2 ^ n else 0
theorem idx_lt:∀ (n:Nat) (y:Nat->Bool),idx n y<2 ^ n
 | 0,_=>by simp [idx]
 | n+1,y=>by
  have:=idx_lt n y
  have e:(2:Nat) ^ (n+1)=2 ^ n+2 ^ n:=by rw [Nat.pow_succ];omega
  unfold idx;split <;> omega
theorem idx_bit:∀ (n:Nat) (y:Nat->Bool) (v:Nat),(idx n y).testBit v=(decide (v<n)&&y v)
 | 0,y,v=>by simp [idx]
 | n+1,y,v=>by
  have hl:=idx_lt n y;have ih:=idx_bit n y v;unfold idx
  by_cases hy:y n=true
  ·rw [if_pos hy,Nat.add_comm]
   by_cases hv:v=n
   ·subst hv
    rw [Nat.testBit_two_pow_add_eq,Nat.testBit_lt_two_pow hl]
    simp [hy]
   ·by_cases hvn:v<n
    ·rw [Nat.testBit_two_pow_add_gt hvn,ih]
     simp [hvn,show v<n+1 by omega]
    ·have h2:2 ^ n+idx n y<2 ^ v:=by
      have e:(2:Nat) ^ (n+1)=2 ^ n+2 ^ n:=by rw [Nat.pow_succ];omega
      have:(2:Nat) ^ (n+1)<=2 ^ v:=Nat.pow_le_pow_right (by omega) (by omega);omega
     rw [Nat.testBit_lt_two_pow h2]
     simp [show ¬ v<n+1 by omega]
  ·rw [if_neg hy,Nat.add_zero,ih]
   by_cases hv:v=n
   ·subst hv;simp [hy]
   ·have:(v<n)↔(v<n+1):=by omega
    simp [this]
theorem idx_of {n x:Nat} (hx:x<2 ^ n):idx n (fun v=>x.testBit v)=x:=by
 apply Nat.eq_of_testBit_eq
 intro v
 rw [idx_bit]
 by_cases hv:v<n
 ·simp [hv]
 ·have:x<2 ^ v:=Nat.lt_of_lt_of_le hx (Nat.pow_le_pow_right (by omega) (by omega))
  rw [Nat.testBit_lt_two_pow this];simp [hv]
def setb (x v:Nat) (b:Bool):Nat:=if x.testBit v=b then x else if b then x+2 ^ v else x-2 ^ v
theorem tb_add {x v:Nat} (h:x.testBit v=false) (u:Nat):(x+2 ^ v).testBit u=if u=v then true else x.testBit u:=by
 by_cases hu:u=v
 ·subst hu;rw [if_pos rfl,Nat.add_comm,Nat.testBit_two_pow_add_eq,h];rfl
 ·rw [if_neg hu]
  have e:x+2 ^ v=x ||| 2 ^ v:=by
   have hd:=Nat.div_add_mod x (2 ^ (v+1))
   have hm:x % 2 ^ (v+1)<2 ^ v:=by
    have h1:x % 2 ^ (v+1)<2 ^ (v+1):=Nat.mod_lt _ (Nat.two_pow_pos _)
    have h2:(x % 2 ^ (v+1)).testBit v=false:=by rw [Nat.testBit_mod_two_pow,h];simp
    by_cases hge:2 ^ v<=x % 2 ^ (v+1)
    ·exfalso
     have e2:(2:Nat) ^ (v+1)=2 ^ v+2 ^ v:=by rw [Nat.pow_succ];omega
     have e3:x % 2 ^ (v+1)=2 ^ v+(x % 2 ^ (v+1)-2 ^ v):=by omega
     rw [e3,Nat.testBit_two_pow_add_eq,Nat.testBit_lt_two_pow (by omega)] at h2;cases h2
    ·omega
   apply Nat.eq_of_testBit_eq
   intro i
   have e4:x+2 ^ v=2 ^ (v+1)*(x/2 ^ (v+1))+(2 ^ v+x % 2 ^ (v+1)):=by omega
   have e5:2 ^ v+x % 2 ^ (v+1)<2 ^ (v+1):=by
    have e2:(2:Nat) ^ (v+1)=2 ^ v+2 ^ v:=by rw [Nat.pow_succ];omega
    omega
   rw [e4,Nat.testBit_two_pow_mul_add _ e5,Nat.testBit_or,Nat.testBit_two_pow];have h6:=Nat.testBit_mod_two_pow x (v+1) i
   have h7:x.testBit i=if i<v+1 then (x % 2 ^ (v+1)).testBit i else (x/2 ^ (v+1)).testBit (i-(v+1)):=by
    split
    ·rename_i hi;rw [h6];simp [hi]
    ·rename_i hi;rw [Nat.testBit_div_two_pow];congr 1;omega
   rw [h7]
   by_cases hi:i<v+1
   ·rw [if_pos hi,if_pos hi]
    by_cases hiv:i=v
    ·subst hiv;rw [Nat.testBit_two_pow_add_eq,Nat.testBit_lt_two_pow hm];simp
    ·rw [Nat.testBit_two_pow_add_gt (by omega)];simp [Ne.symm hiv]
   ·rw [if_neg hi,if_neg hi]
    have:¬ v=i:=by omega
    simp [this]
  rw [e,Nat.testBit_or,Nat.testBit_two_pow]
  simp [Ne.symm hu]
theorem setb_bit (x v:Nat) (b:Bool) (u:Nat):(setb x v b).testBit u=if u=v then b else x.testBit u:=by
 unfold setb
 by_cases h:x.testBit v=b
 ·rw [if_pos h]
  by_cases hu:u=v
  ·subst hu;rw [if_pos rfl];exact h
  ·rw [if_neg hu]
 ·rw [if_neg h]
  cases b with
  | true =>
   have h':x.testBit v=false:=by simpa using h
   rw [if_pos rfl,tb_add h']
  | false =>
   have h':x.testBit v=true:=by simpa using h
   have hge:2 ^ v<=x:=Nat.ge_two_pow_of_testBit h'
   have h0:(x-2 ^ v).testBit v=false:=by
    cases e:(x-2 ^ v).testBit v with
    | false=>rfl
    | true =>
     have:=Nat.testBit_two_pow_add_eq (x-2 ^ v) v
     rw [Nat.add_comm,Nat.sub_add_cancel hge,h',e] at this;cases this
   have:=tb_add h0 u;rw [Nat.sub_add_cancel hge] at this
   simp only [Bool.false_eq_true,if_false]
   by_cases hu:u=v
   ·subst hu;rw [if_pos rfl];exact h0
   ·rw [if_neg hu] at this ⊢;exact this.symm
theorem setb_lt {x v n:Nat} (b:Bool) (hx:x<2 ^ n) (hv:v<n):setb x v b<2 ^ n:=by
 apply Nat.lt_pow_two_of_testBit
 intro i hi
 rw [setb_bit,if_neg (by omega)];exact Nat.testBit_lt_two_pow (Nat.lt_of_lt_of_le hx (Nat.pow_le_pow_right (by omega) hi))
theorem setb_idx {n v:Nat} (hv:v<n) (y:Nat->Bool) (b:Bool):setb (idx n y) v b=idx n (upd y v b):=by
 apply Nat.eq_of_testBit_eq
 intro u
 rw [setb_bit,idx_bit,idx_bit]
 by_cases hu:u=v
 ·subst hu;simp [hv,upd]
 ·simp [hu,upd]
def TV.fn (t:TV) (y:Nat->Bool):Bool:=t.bit (idx t.n y)
theorem TV.fn_ext {t u:TV} (ht:t.Ok) (hu:u.Ok) (hn:t.n=u.n) (h:∀ y,t.fn y=u.fn y):t=u :=
 TV.ext ht hu hn fun x hx=>by
  have:=h fun v=>x.testBit v
  unfold TV.fn at this;rw [idx_of hx,<- hn,idx_of hx] at this;exact this
theorem TV.fn_same (t:TV) {x y:Nat->Bool} (h:∀ v,v<t.n->x v=y v):t.fn x=t.fn y:=by
 have:idx t.n x=idx t.n y:=by
  apply Nat.eq_of_testBit_eq
  intro v
  rw [idx_bit,idx_bit]
  by_cases hv:v<t.n
  ·simp [hv,h v hv]
  ·simp [hv]
 unfold TV.fn;rw [this]
end Go.Proofs.YtpfafhmkbcahhaaGreat
namespace Go.Proofs.YtpfafhmkbcahhaaGreat
open Go.RowKit
def mkT (n:Nat) (f:Nat->Bool):TV:=⟨n,(List.range (wordsN n)).map fun i=>((idx 64 fun j=>decide (64*i+j<2 ^ n)&&f (64*i+j):Nat):Int)⟩
theorem nb_cast (m i:Nat):nb (m:Int) i=m.testBit i:=by simp [nb]
theorem mkT_word (n:Nat) (f:Nat->Bool) {i:Nat} (hi:i<wordsN n):(mkT n f).ws.getD i 0=((idx 64 fun j=>decide (64*i+j<2 ^ n)&&f (64*i+j):Nat):Int):=by
 rw [List.getD_eq_getElem?_getD]
 simp [mkT,hi]
theorem mkT_ok {n:Nat} (f:Nat->Bool) (hn:n<=16):(mkT n f).Ok:=by
 refine ⟨hn,by simp [mkT],fun x hx=>?_,fun h6 x hx i hi=>?_⟩
 ·simp only [mkT,List.mem_map] at hx
  obtain ⟨i,_,rfl⟩:=hx
  have:=idx_lt 64 fun j=>decide (64*i+j<2 ^ n)&&f (64*i+j)
  unfold U64;omega
 ·have h6':n<6:=h6
  have hi':2 ^ n<=i:=hi
  simp only [mkT,List.mem_map,List.mem_range] at hx
  obtain ⟨j,hj,rfl⟩:=hx
  have hj0:j=0:=by unfold wordsN at hj;rw [if_pos (by omega)] at hj;omega
  subst hj0;rw [nb_cast,idx_bit]
  simp;intro _ h;omega
theorem mkT_bit {n:Nat} (f:Nat->Bool) {x:Nat} (hx:x<2 ^ n):(mkT n f).bit x=f x:=by
 unfold TV.bit;rw [mkT_word n f (div64_lt hx),nb_cast,idx_bit]
 have e:64*(x/64)+x % 64=x:=by omega
 simp only [e,hx,decide_true,Bool.true_and]
 have:x % 64<64:=Nat.mod_lt _ (by omega)
 simp [this]
theorem mkT_n (n:Nat) (f:Nat->Bool):(mkT n f).n=n:=rfl
theorem mkT_eq {t:TV} (ht:t.Ok) {f:Nat->Bool} (h:∀ x,x<2 ^ t.n->t.bit x=f x):t=mkT t.n f :=
 TV.ext ht (mkT_ok f ht.n16) rfl fun x hx=>by rw [h x hx,mkT_bit f hx]
theorem mkT_fn {n:Nat} (f:Nat->Bool) (y:Nat->Bool):(mkT n f).fn y=f (idx n y):=by
 unfold TV.fn;rw [mkT_n,mkT_bit f (idx_lt n y)]
def constT (n:Nat) (b:Bool):TV:=mkT n fun _=>b
def varT (n v:Nat):TV:=mkT n fun x=>x.testBit v
def cofT (t:TV) (v:Nat) (b:Bool):TV:=mkT t.n fun x=>t.bit (setb x v b)
theorem constT_fn (n:Nat) (b:Bool) (y:Nat->Bool):(constT n b).fn y=b:=mkT_fn _ y
theorem cofT_fn {t:TV} {v:Nat} (hv:v<t.n) (b:Bool) (y:Nat->Bool):(cofT t v b).fn y=t.fn (upd y v b):=by
 unfold cofT;rw [mkT_fn,setb_idx hv];rfl
theorem cofT_ok {t:TV} (ht:t.Ok) (v:Nat) (b:Bool):(cofT t v b).Ok:=mkT_ok _ ht.n16
def depT (t:TV) (v:Nat):Bool:=!decide (cofT t v false=cofT t v true)
theorem depT_iff {t:TV} (ht:t.Ok) {v:Nat} (hv:v<t.n):depT t v=true↔Hangs t.fn v:=by
 unfold depT;rw [Bool.not_eq_true',decide_eq_false_iff_not];constructor
 ·intro hne
  by_cases hh:∃ y,t.fn (upd y v true)≠t.fn (upd y v false)
  ·exact hh
  ·exfalso
   refine hne (TV.fn_ext (cofT_ok ht v false) (cofT_ok ht v true) rfl fun y=>?_);rw [cofT_fn hv,cofT_fn hv]
   by_cases h:t.fn (upd y v false)=t.fn (upd y v true)
   ·exact h
   ·exact absurd ⟨y,fun e=>h e.symm⟩ hh
 ·rintro ⟨y,hy⟩ e
  exact hy (by rw [<- cofT_fn hv true y,<- cofT_fn hv false y,e])
theorem setb_low {x v:Nat} (b:Bool) (hv:v<6):setb x v b/64=x/64/\setb x v b % 64=setb (x % 64) v b:=by
 constructor
 ·apply Nat.eq_of_testBit_eq
  intro i
  rw [show (64:Nat)=2 ^ 6 from rfl,Nat.testBit_div_two_pow,Nat.testBit_div_two_pow,setb_bit,if_neg (by omega)]
 ·apply Nat.eq_of_testBit_eq
  intro i
  rw [show (64:Nat)=2 ^ 6 from rfl,Nat.testBit_mod_two_pow,setb_bit,setb_bit,Nat.testBit_mod_two_pow]
  by_cases h:i=v
  ·subst h;simp [hv]
  ·simp [h]
theorem u64_zero:U64 0:=by unfold U64;omega
theorem nb_shr {x:Int} (hx:U64 x) (k i:Nat):U64 (x/2 ^ k)/\nb (x/2 ^ k) i=nb x (i+k):=by
 obtain ⟨n,rfl⟩ : ∃ n:Nat,x=(n:Int):=⟨x.toNat,by unfold U64 at hx;omega⟩
 have e:((n:Int)/2 ^ k)=((n/2 ^ k:Nat):Int):=by push_cast;rfl
 refine ⟨?_,?_⟩
 ·rw [e]
  have h1:=Nat.div_le_self n (2 ^ k);generalize n/2 ^ k=m at h1 ⊢
  unfold U64 at hx ⊢;omega
 ·rw [e,nb_cast,nb_cast,Nat.testBit_div_two_pow,Nat.add_comm]
theorem nb_shl {x:Int} (hx:U64 x) (k i:Nat):nb (IntKind.u64.wrap (x*2 ^ k)) i=(decide (i<64)&&(decide (k<=i)&&nb x (i-k))):=by
 obtain ⟨n,rfl⟩ : ∃ n:Nat,x=(n:Int):=⟨x.toNat,by unfold U64 at hx;omega⟩
 have e:IntKind.u64.wrap ((n:Int)*2 ^ k)=((n*2 ^ k % 18446744073709551616:Nat):Int):=by
  have h1:IntKind.u64.wrap ((n:Int)*2 ^ k)=((n:Int)*2 ^ k) % 18446744073709551616:=rfl
  have h2:(n:Int)*2 ^ k=((n*2 ^ k:Nat):Int):=by push_cast;rfl
  rw [h1,h2];generalize n*2 ^ k=m;omega
 rw [e,nb_cast,nb_cast,show (18446744073709551616:Nat)=2 ^ 64 from rfl,Nat.testBit_mod_two_pow,Nat.testBit_mul_two_pow]
def cofW (v:Nat) (b:Bool) (ones w:Int):Int :=
 if b then bits BinOp.or IntKind.u64 (bits BinOp.and IntKind.u64 w ones) (bits BinOp.and IntKind.u64 w ones/2 ^ (2 ^ v))
 else bits BinOp.or IntKind.u64 (bits BinOp.andNot IntKind.u64 w ones) (IntKind.u64.wrap (bits BinOp.andNot IntKind.u64 w ones*2 ^ (2 ^ v)))
theorem low_facts:∀ v,v<6->∀ i,i<64->(((i+2 ^ v).testBit v=!i.testBit v)/\(i.testBit v=true->2 ^ v<=i/\(i-2 ^ v).testBit v=false)/\(2 ^ v<=i->i.testBit v=false->(i-2 ^ v).testBit v=true)):=by decide +kernel
theorem cofW_bit {v:Nat} (hv:v<6) (b:Bool) {ones w:Int} (hw:U64 w) (ho:U64 ones) (hob:∀ i,i<64->nb ones i=i.testBit v):U64 (cofW v b ones w)/\∀ i,i<64->nb (cofW v b ones w) i=nb w (setb i v b):=by
 have p6:(2:Nat) ^ v<=32:=by
  have:(2:Nat) ^ v<=2 ^ 5:=Nat.pow_le_pow_right (by omega) (by omega);omega
 unfold cofW
 cases b with
 | true =>
  rw [if_pos rfl];have hA:=bits_u64 BinOp.and w ones
  have hS:=fun i=>nb_shr hA (2 ^ v) i
  refine ⟨bits_u64 _ _ _,fun i hi=>?_⟩;obtain ⟨f1,f2,f3⟩:=low_facts v hv i hi;rw [nb_or hA (hS 0).1,(hS i).2,nb_and hw ho,nb_and hw ho,hob i hi];unfold setb
  cases hb:i.testBit v with
  | true =>
   rw [if_pos rfl]
   have:nb ones (i+2 ^ v)=false:=by
    by_cases h64:i+2 ^ v<64
    ·rw [hob _ h64,f1,hb];rfl
    ·exact nb_high ho (by omega)
   rw [this];simp
  | false =>
   simp only [Bool.false_eq_true,if_false,if_true,Bool.and_false,Bool.false_or]
   by_cases h64:i+2 ^ v<64
   ·rw [hob _ h64,f1,hb];simp
   ·rw [nb_high hw (by omega)];simp
 | false =>
  simp only [Bool.false_eq_true,if_false]
  have hA:=bits_u64 BinOp.andNot w ones;refine ⟨bits_u64 _ _ _,fun i hi=>?_⟩;obtain ⟨f1,f2,f3⟩:=low_facts v hv i hi;have hsub:=Nat.sub_le i (2 ^ v);rw [nb_or hA (wrap_u64 _),nb_shl hA,nb_andNot hw ho hi,hob i hi];unfold setb
  cases hb:i.testBit v with
  | true =>
   obtain ⟨g1,g2⟩:=f2 hb
   simp only [Bool.not_true,Bool.and_false,Bool.false_or,hi,decide_true,Bool.true_and,g1]
   rw [nb_andNot hw ho (by omega),hob _ (by omega),g2];simp
  | false =>
   rw [if_pos rfl]
   simp only [Bool.not_false,Bool.and_true,hi,decide_true,Bool.true_and]
   by_cases hle:2 ^ v<=i
   ·rw [nb_andNot hw ho (by omega),hob _ (by omega),f3 hle hb];simp
   ·simp [hle]
theorem cof_low {t:TV} (ht:t.Ok) {v:Nat} (hv:v<6) (hvn:v<t.n) (b:Bool) {ones:Int} (ho:U64 ones) (hob:∀ i,i<64->nb ones i=i.testBit v):cofT t v b=⟨t.n,t.ws.map (cofW v b ones)⟩:=by
 have hok:(⟨t.n,t.ws.map (cofW v b ones)⟩ : TV).Ok:=by
  refine ⟨ht.n16,by simp [ht.len],fun x hx=>?_,fun h6 x hx i hi=>?_⟩
  ·obtain ⟨w,hw,rfl⟩:=List.mem_map.1 hx
   exact (cofW_bit hv b (ht.u w hw) ho hob).1
  ·obtain ⟨w,hw,rfl⟩:=List.mem_map.1 hx
   have hc:=cofW_bit hv b (ht.u w hw) ho hob
   by_cases h64:i<64
   ·rw [hc.2 i h64]
    have h6':t.n<6:=h6;have hi':2 ^ t.n<=i:=hi;refine ht.low h6' w hw _ ?_
    by_cases hlt:setb i v b<2 ^ t.n
    ·exfalso
     have:setb (setb i v b) v (i.testBit v)=i:=by
      apply Nat.eq_of_testBit_eq
      intro u
      rw [setb_bit,setb_bit]
      by_cases hu:u=v
      ·subst hu;simp
      ·simp [hu]
     have h2:=setb_lt (i.testBit v) hlt hvn
     rw [this] at h2;omega
    ·omega
   ·exact nb_high hc.1 (by omega)
 refine (mkT_eq hok fun x hx=>?_).symm;have hd:=div64_lt (n:=t.n) hx;obtain ⟨w1,w2,w3⟩:=ht.word hd;unfold TV.bit
 have e:(t.ws.map (cofW v b ones)).getD (x/64) 0=cofW v b ones (t.ws.getD (x/64) 0):=by
  rw [List.getD_eq_getElem?_getD,List.getElem?_map,w3];rfl
 show nb ((t.ws.map (cofW v b ones)).getD (x/64) 0) (x % 64)=nb (t.ws.getD (setb x v b/64) 0) (setb x v b % 64)
 rw [e,(cofW_bit hv b w1 ho hob).2 _ (Nat.mod_lt _ (by omega)),(setb_low b hv).1,(setb_low b hv).2]
end Go.Proofs.YtpfafhmkbcahhaaGreat
namespace Go.Proofs.YtpfafhmkbcahhaaGreat
theorem MakeR.is_new {K K':KV} {v:Int} {lo hi r:Nat} {c:Int} (M:MakeR K v lo hi r c K') (h0:K.fitsE v lo hi=0) (hne:lo≠hi) (hno:∀ s,¬ K.At s v.toNat lo hi) (hu:K.A.used≠K.A.places):c=0/\K.Made v.toNat lo hi r K':=by
 cases M with
 | bad h=>exact absurd h0 h
 | full _ hs _ =>
  rcases hs with hs | hs
  ·exact absurd hs.1 hne
  ·exact absurd hs.2 (hno _)
 | old _ hs _ =>
  rcases hs with hs | hs
  ·exact absurd hs.1 hne
  ·exact absurd hs.2 (hno _)
 | nodes _ _ _ h=>exact absurd h hu
 | new _ _ _ h=>exact ⟨rfl,h⟩
structure Plain (K:KV) (n m:Nat):Prop where
 ok:K.Ok
 uni:K.Uni
 vr:K.vars=n
 lv:∀ v,v<n->K.lev v=v
 pl:K.A.places=m
theorem Plain.ext {K K':KV} {n m:Nat} (h:Plain K n m) (e:K.Ext K') (hk:K'.Ok) (hu:K'.Uni):Plain K' n m :=
 ⟨hk,hu,e.vr.trans h.vr,fun v hv=>(e.lev v).trans (h.lv v hv),e.pl.trans h.pl⟩
theorem plain_new {n m:Nat} (h1:1<=n) (hn:n<=64) (h2:2<=m) (hm:m<=1048576):Plain (KV.new n m) n m:=by
 refine ⟨KV.new_ok h1 hn h2 hm,(TInv.new n m).uni (KV.new_ok h1 hn h2 hm).wf,rfl,fun v hv=>by simp [KV.lev,KV.new,hv],rfl⟩
theorem Plain.var {K K':KV} {n m v r:Nat} {c:Int} (h:Plain K n m) (hv:v<n) (hno:∀ s,¬ K.At s v 0 1) (hu:K.A.used<m) (M:MakeR K (v:Int) 0 1 r c K'):c=0/\K.Made v 0 1 r K':=by
 have hvr:=h.vr;have hpl:=h.pl;refine M.is_new (KV.fits_ok (by omega) (h.ok.tk_const (by omega)) (h.ok.tk_const (by omega)) fun _=>?_) (by omega) (by simpa using hno) (by omega);rw [h.lv v hv,h.ok.wf.dep_const (by omega),h.ok.wf.dep_const (by omega)];omega
theorem KV.Made.at_iff {K K':KV} {v lo hi r:Nat} (M:K.Made v lo hi r K') {s u lo' hi':Nat}:K'.At s u lo' hi'↔(s=r/\u=v/\lo'=lo/\hi'=hi)\/K.At s u lo' hi':=by
 constructor
 ·intro h
  obtain ⟨h2,p,hp,hpt,e1,e2,e3⟩:=h
  by_cases e:s=r
  ·subst e
   rw [M.at_] at hp;cases hp
   simp at e1 e2 e3
   exact .inl ⟨rfl,by omega,e2.symm,e3.symm⟩
  ·have ht:K'.A.tk s=true:=ArenaV.tk_iff.2 ⟨p,hp,hpt⟩
   rw [M.tk] at ht
   simp [e] at ht
   obtain ⟨p',hp',hpt'⟩:=ArenaV.tk_iff.1 ht;have:=M.ext.nd s p' hp' hpt'
   rw [hp] at this;cases this
   exact .inr ⟨h2,p,hp',hpt,e1,e2,e3⟩
 ·rintro (⟨rfl,rfl,rfl,rfl⟩ | ⟨h2,p,hp,hpt,rest⟩)
  ·exact ⟨M.two,_,M.at_,rfl,rfl,rfl,rfl⟩
  ·exact ⟨h2,p,M.ext.nd s p hp hpt,hpt,rest⟩
structure TwoV (K:KV) (n m r1 r2:Nat):Prop where
 pl:Plain K n m
 us:K.A.used=4
 tk:∀ x,K.A.tk x=true↔x=0\/x=1\/x=r1\/x=r2
 d1:∀ y,K.den r1 y=y 0
 d2:∀ y,K.den r2 y=y 1
 h1:∀ x,K.hold x<=1
theorem new_tk (n m x:Nat):(KV.new n m).A.tk x=true↔x<2:=by
 constructor
 ·intro h
  have:=ArenaV.tk_lt h
  simp [KV.new,ArenaV.new] at this
  exact this
 ·intro h
  obtain rfl | rfl:x=0\/x=1:=by omega
  ·rfl
  ·rfl
theorem two_vars {n m r1 r2:Nat} {c1 c2:Int} {K1 K2:KV} (h2:2<=n) (hn:n<=64) (hm4:5<=m) (hm:m<=1048576) (k1:K1.Ok) (u1:K1.Uni) (k2:K2.Ok) (u2:K2.Uni) (M1:MakeR (KV.new n m) ((0:Nat):Int) 0 1 r1 c1 K1) (M2:MakeR K1 ((1:Nat):Int) 0 1 r2 c2 K2) :
  c1=0/\c2=0/\TwoV K2 n m r1 r2:=by
 have P0:=plain_new (n:=n) (m:=m) (by omega) hn (by omega) hm
 have no0:∀ s u lo hi,¬ (KV.new n m).At s u lo hi:=fun s u lo hi h=>by
  have:=(new_tk n m s).1 h.tk;have:=h.1;omega
 have us0:(KV.new n m).A.used=2:=rfl;obtain ⟨e1,A1⟩:=P0.var (by omega) (no0 · 0 0 1) (by omega) M1;have P1:=P0.ext A1.ext k1 u1;have us1:=A1.us
 obtain ⟨e2,A2⟩:=P1.var (by omega) (fun s h=>by
  rcases A1.at_iff.1 h with ⟨_,h,_⟩ | h
  ·omega
  ·exact no0 _ _ _ _ h) (by omega) M2
 have P2:=P1.ext A2.ext k2 u2;have us2:=A2.us;have at1:K2.At r1 0 0 1:=A2.at_iff.2 (.inr (A1.at_iff.2 (.inl ⟨rfl,rfl,rfl,rfl⟩)));have at2:K2.At r2 1 0 1:=A2.at_iff.2 (.inl ⟨rfl,rfl,rfl,rfl⟩)
 have c01:∀ y,K2.den 0 y=false/\K2.den 1 y=true:=fun y=>⟨K2.den_const (by omega) y,K2.den_const (by omega) y⟩
 refine ⟨e1,e2,P2,by omega,fun x=>?_,fun y=>?_,fun y=>?_,fun x=>?_⟩
 ·rw [A2.tk,A1.tk]
  simp only [Bool.or_eq_true,decide_eq_true_eq,new_tk]
  omega
 ·rw [at1.den k2,(c01 y).1,(c01 y).2];cases y 0 <;> rfl
 ·rw [at2.den k2,(c01 y).1,(c01 y).2];cases y 1 <;> rfl
 ·rw [A2.hd]
  have hz:(KV.new n m).hold x=0:=by simp [KV.hold,KV.new]
  split
  ·omega
  ·rw [A1.hd];split <;> omega
theorem opB_and (a b:Bool):opB 8 a b=(a&&b):=by cases a <;> cases b <;> rfl
theorem opB_xor (a b:Bool):opB 6 a b=(a != b):=by cases a <;> cases b <;> rfl
theorem TwoV.parts {K K':KV} {n m r1 r2:Nat} (h:TwoV K n m r1 r2) (hn:2<=n) (e:K.Ext K') (k':K'.Ok) (u':K'.Uni) {t:(Nat->Bool)->Bool} (ht:∀ y,t y=(y 0&&y 1)) (hnew:∀ x,K'.A.tk x=true->K.A.tk x=false->K.SubN t (K'.den x)) (x:Nat) (hx:K'.A.tk x=true) :
  (x=0\/x=1\/x=r1\/x=r2)\/∀ y,K'.den x y=(y 0&&y 1):=by
 have wf:=h.pl.ok.wf
 have can:∀ {a b:Nat},K'.A.tk a=true->K'.A.tk b=true->(∀ y,K'.den a y=K'.den b y)->a=b:=fun ha hb h=>KV.canon k'.wf k'.ord u' _ _ _ ha hb (Nat.le_refl _) h
 have t2:K.A.tk r2=true:=(h.tk r2).2 (by simp)
 cases hk:K.A.tk x with
 | true=>exact .inl ((h.tk x).1 hk)
 | false =>
  obtain ⟨l,a,hl⟩:=hnew x hx hk;have hvr:=h.pl.vr;have l0:=h.pl.lv 0 (by omega);have l1:=h.pl.lv 1 (by omega)
  have m0:∀ y,K.mix l a y 0=if 0<l then a 0 else y 0:=fun y=>by simp only [KV.mix,l0];congr 1;simp;omega
  have m1:∀ y,K.mix l a y 1=if 1<l then a 1 else y 1:=fun y=>by simp only [KV.mix,l1];congr 1;simp;omega
  have hd:∀ y,K'.den x y=((if 0<l then a 0 else y 0)&&(if 1<l then a 1 else y 1)):=fun y=>by rw [hl,ht,m0,m1]
  by_cases h0:0<l
  ·left
   simp only [h0,if_true] at hd
   cases ha:a 0 with
   | false =>
    left
    refine can hx (k'.tk_const (by omega)) fun y=>?_
    rw [hd,ha,K'.den_const (by omega)];simp
   | true =>
    by_cases h1:1<l
    ·simp only [h1,if_true] at hd
     cases hb:a 1 with
     | false =>
      left
      refine can hx (k'.tk_const (by omega)) fun y=>?_
      rw [hd,ha,hb,K'.den_const (by omega)];simp
     | true =>
      right;left
      refine can hx (k'.tk_const (by omega)) fun y=>?_
      rw [hd,ha,hb,K'.den_const (by omega)];simp
    ·right;right;right
     simp only [h1,if_false] at hd
     refine can hx (e.tk t2) fun y=>?_
     rw [hd,ha,e.den wf y t2,h.d2];simp
  ·right
   intro y
   rw [hd];simp only [h0,if_false]
   rw [if_neg (by omega)]
theorem TwoV.fits {K:KV} {n m r1 r2:Nat} (h:TwoV K n m r1 r2) (hn:2<=n) (hm:6<=m) {t:(Nat->Bool)->Bool} (ht:∀ y,t y=(y 0&&y 1)):¬ NoFit K (K.SubN t):=by
 rintro ⟨K',M,g,hk,hu,R,hus,_⟩;have hp:=(h.pl.ext R.ext hk hu).pl;have parts:=h.parts hn R.ext hk hu ht R.new
 by_cases hf:∃ f,K'.A.tk f=true/\∀ y,K'.den f y=(y 0&&y 1)
 ·obtain ⟨f,tf,df⟩:=hf
  have:=K'.used_le hk.wf (l:=[0,1,r1,r2,f]) fun x hx=>by
   rcases parts x hx with h | h
   ·simp;omega
   ·have:x=f:=KV.canon hk.wf hk.ord hu _ _ _ hx tf (Nat.le_refl _) fun y=>by rw [h,df]
    simp [this]
  simp at this;omega
 ·have:=K'.used_le hk.wf (l:=[0,1,r1,r2]) fun x hx=>by
   rcases parts x hx with h | h
   ·simp;omega
   ·exact absurd ⟨x,hx,h⟩ hf
  simp at this;omega
structure ThreeN (K:KV) (n m r1 r2 f:Nat):Prop where
 pl:Plain K n m
 us:K.A.used=5
 tk:∀ x,K.A.tk x=true↔x=0\/x=1\/x=r1\/x=r2\/x=f
 d1:∀ y,K.den r1 y=y 0
 d2:∀ y,K.den r2 y=y 1
 df:∀ y,K.den f y=(y 0&&y 1)
 f2:2<=f
 hf:K.hold f=1
theorem TwoV.and {K K':KV} {n m r1 r2 f:Nat} {c:Int} (h:TwoV K n m r1 r2) (hn:2<=n) (hm:6<=m) (k':K'.Ok) (u':K'.Uni) (O:OpR K (K.fun3 (fun x y _=>opB 8 x y) r1 r2 0) f c K'):c=0/\ThreeN K' n m r1 r2 f:=by
 have ht:∀ y,K.fun3 (fun x y _=>opB 8 x y) r1 r2 0 y=(y 0&&y 1):=fun y=>by simp only [KV.fun3,opB_and,h.d1,h.d2]
 rcases O with ⟨rfl,O⟩ | ⟨_,_,_,s,_,_,hs⟩ | ⟨_,_,_,hno⟩
 ·have wf:=h.pl.ok.wf
  have df:∀ y,K'.den f y=(y 0&&y 1):=fun y=>by rw [O.den,ht]
  have t1:K.A.tk r1=true:=(h.tk r1).2 (by simp);have t2:K.A.tk r2=true:=(h.tk r2).2 (by simp)
  have d1:∀ y,K'.den r1 y=y 0:=fun y=>by rw [O.ext.den wf y t1,h.d1]
  have d2:∀ y,K'.den r2 y=y 1:=fun y=>by rw [O.ext.den wf y t2,h.d2]
  have n0:f≠0:=by
   rintro rfl
   have:=df fun _=>true
   rw [K'.den_const (by omega)] at this;cases this
  have n1:f≠1:=by
   rintro rfl
   have:=df fun _=>false
   rw [K'.den_const (by omega)] at this;cases this
  have nr1:f≠r1:=by
   rintro rfl
   have a:=df fun v=>v == 0
   have b:=d1 fun v=>v == 0
   rw [a] at b;cases b
  have nr2:f≠r2:=by
   rintro rfl
   have a:=df fun v=>v == 1
   have b:=d2 fun v=>v == 1
   rw [a] at b;cases b
  have r10:r1≠0:=by
   rintro rfl
   have:=d1 fun _=>true
   rw [K'.den_const (by omega)] at this;cases this
  have r11:r1≠1:=by
   rintro rfl
   have:=d1 fun _=>false
   rw [K'.den_const (by omega)] at this;cases this
  have r20:r2≠0:=by
   rintro rfl
   have:=d2 fun _=>true
   rw [K'.den_const (by omega)] at this;cases this
  have r21:r2≠1:=by
   rintro rfl
   have:=d2 fun _=>false
   rw [K'.den_const (by omega)] at this;cases this
  have r12:r1≠r2:=by
   rintro rfl
   have a:=d1 fun v=>v == 0
   have b:=d2 fun v=>v == 0
   rw [a] at b;cases b
  have tk:∀ x,K'.A.tk x=true↔x=0\/x=1\/x=r1\/x=r2\/x=f:=by
   intro x
   constructor
   ·intro hx
    rcases h.parts hn O.ext k' u' ht O.new x hx with h | h
    ·omega
    ·have:x=f:=KV.canon k'.wf k'.ord u' _ _ _ hx O.tk (Nat.le_refl _) fun y=>by rw [h,df]
     omega
   ·rintro (rfl | rfl | rfl | rfl | rfl)
    ·exact k'.tk_const (by omega)
    ·exact k'.tk_const (by omega)
    ·exact O.ext.tk t1
    ·exact O.ext.tk t2
    ·exact O.tk
  have hle:=K'.used_le k'.wf (l:=[0,1,r1,r2,f]) fun x hx=>by
   have:=(tk x).1 hx
   simp;omega
  have hge:=K'.used_ge k'.wf (l:=[0,1,r1,r2,f]) (by simp;omega) fun x hx=>(tk x).2 (by simpa using hx)
  have hf0:K.hold f=0:=by
   by_cases hp:0<K.hold f
   ·have:=(h.tk f).1 (wf.ht f hp).2
    omega
   ·omega
  refine ⟨rfl,h.pl.ext O.ext k' u',by simp at hle hge;omega,tk,d1,d2,df,by omega,?_⟩
  rw [O.hd,hf0];simp;omega
 ·have:=h.h1 s;omega
 ·exact (h.fits hn hm ht hno).elim
theorem ThreeN.xor {K K':KV} {n m r1 r2 f g:Nat} {c:Int} (h:ThreeN K n m r1 r2 f) (k':K'.Ok) (u':K'.Uni) (O:OpR K (K.fun3 (fun x y _=>opB 6 x y) f f 0) g c K'):c=0/\g=0/\ThreeN K' n m r1 r2 f:=by
 have ok:=h.pl.ok
 have ht:∀ y,K.den 0 y=K.fun3 (fun x y _=>opB 6 x y) f f 0 y:=fun y=>by
  rw [K.den_const (by omega)]
  simp only [KV.fun3,opB_xor]
  cases K.den f y <;> rfl
 have t0:=ok.tk_const (r:=0) (by omega)
 have hh:K.hold 0<65535:=by
  by_cases h0:0<K.hold 0
  ·have:=(ok.wf.ht 0 h0).1;omega
  ·omega
 obtain ⟨e1,e2,Q⟩:=O.live ok k' u' h.pl.uni t0 ht hh;clear O;subst e1 e2;have O:=Q;have same:=O.same ok k' u' t0 ht;have t1:K.A.tk r1=true:=(h.tk r1).2 (by simp);have t2:K.A.tk r2=true:=(h.tk r2).2 (by simp);have tf:K.A.tk f=true:=(h.tk f).2 (by simp);refine ⟨rfl,rfl,h.pl.ext O.ext k' u',?_,fun x=>(same x).trans (h.tk x),fun y=>by rw [O.ext.den ok.wf y t1,h.d1],fun y=>by rw [O.ext.den ok.wf y t2,h.d2],fun y=>by rw [O.ext.den ok.wf y tf,h.df],h.f2,by rw [O.hd,h.hf];simp⟩
 have a:=K'.used_le k'.wf (l:=K.lives) fun x hx=>KV.mem_lives.2 ((same x).1 hx)
 have b:=K'.used_ge k'.wf K.lives_nodup fun x hx=>(same x).2 (KV.mem_lives.1 hx)
 rw [KV.lives_len ok.wf] at a b;have:=h.us;omega
theorem ThreeN.ite {K K':KV} {n m r1 r2 f g:Nat} {c:Int} (h:ThreeN K n m r1 r2 f) (k':K'.Ok) (u':K'.Uni) (O:OpR K (K.fun3 (fun x y z=>if x then y else z) r1 r2 0) g c K'):c=0/\g=f/\K'.A.used=5/\K'.hold f=2:=by
 have ok:=h.pl.ok
 have ht:∀ y,K.den f y=K.fun3 (fun x y z=>if x then y else z) r1 r2 0 y:=fun y=>by
  rw [h.df]
  simp only [KV.fun3,h.d1,h.d2,K.den_const (show 0<2 by omega)]
  cases y 0 <;> simp
 have tf:K.A.tk f=true:=(h.tk f).2 (by simp);obtain ⟨e1,e2,Q⟩:=O.live ok k' u' h.pl.uni tf ht (by rw [h.hf];omega);clear O;subst e1 e2;have O:=Q;have same:=O.same ok k' u' tf ht;refine ⟨rfl,rfl,?_,by rw [O.hd,h.hf];simp [h.f2]⟩
 have a:=K'.used_le k'.wf (l:=K.lives) fun x hx=>KV.mem_lives.2 ((same x).1 hx)
 have b:=K'.used_ge k'.wf K.lives_nodup fun x hx=>(same x).2 (KV.mem_lives.1 hx)
 rw [KV.lives_len ok.wf] at a b;have:=h.us;omega
end Go.Proofs.YtpfafhmkbcahhaaGreat
namespace Go.Proofs.YtpfafhmkbcahhaaGreat
open Go.RowKit Go.Maps Go.ChangeMaps Go.WideShapes
structure MakePost (b:Nat) (v:Int) (lo hi:Nat) (K:KV) (q:KPtr) (w:World) (e:Ending) (w':World):Prop where
 ex:∃ (r:Nat) (code:Int) (K':KV) (T':List DM) (q':KPtr),e=.returned (.tuple #[.int .u32 r,.int .i64 code])/\MakeR K v lo hi r code K'/\KerIn w' b K' T' q'/\Upd (q.all b) w w'/\Sub (q.all b) w (q'.all b)
theorem var_live (b:Nat) (v:Int) (K:KV) (T:List DM) (q:KPtr) (w:World) (h:KerIn w b K T q) :
  Calls Tryz.prog 104 #[.pointer (some ⟨b,0,none⟩),.int .i64 v] w fun e w'=>MakePost b v 0 1 K q w e w':=by
 have HK:=Lib.hid h;clear h
 go_enter Tryz.func104,Tryz.ntmps104
 go_wp2_with fail;refine (make_spec b v 0 1 K T q w HK.out (by omega) (by omega)).mono ?_;rintro e w1 ⟨r,code,K',T',q',rfl,hE⟩;have HE:=Lib.hid hE;clear hE;go_wp2_with fail;go_ret2;exact ⟨r,code,K',T',q',rfl,HE.out⟩
theorem and_live (b f g:Nat) (K:KV) (T:List DM) (q:KPtr) (w:World) (h:KerIn w b K T q) (hf:K.A.tk f=true) (hg:K.A.tk g=true) :
  Calls Tryz.prog 105 #[.pointer (some ⟨b,0,none⟩),.int .u32 f,.int .u32 g] w fun e w'=>OpPost b K q (K.fun3 (fun x y _=>opB 8 x y) f g 0) w e w':=by
 have HC:=Lib.hid (binary_live b 8 f g K T q w h (by omega) hf hg);clear h hf hg
 go_enter Tryz.func105,Tryz.ntmps105
 go_wp2_with fail;refine HC.out.mono ?_;rintro e w1 hE;obtain ⟨r,code,K',T',q',rfl,hP⟩:=hE.ex;have HE:=Lib.hid hP;clear hE hP HC;go_wp2_with fail;go_ret2;exact ⟨r,code,K',T',q',rfl,HE.out⟩
theorem xor_live (b f g:Nat) (K:KV) (T:List DM) (q:KPtr) (w:World) (h:KerIn w b K T q) (hf:K.A.tk f=true) (hg:K.A.tk g=true) :
  Calls Tryz.prog 106 #[.pointer (some ⟨b,0,none⟩),.int .u32 f,.int .u32 g] w fun e w'=>OpPost b K q (K.fun3 (fun x y _=>opB 6 x y) f g 0) w e w':=by
 have HC:=Lib.hid (binary_live b 6 f g K T q w h (by omega) hf hg);clear h hf hg
 go_enter Tryz.func106,Tryz.ntmps106
 go_wp2_with fail;refine HC.out.mono ?_;rintro e w1 hE;obtain ⟨r,code,K',T',q',rfl,hP⟩:=hE.ex;have HE:=Lib.hid hP;clear hE hP HC;go_wp2_with fail;go_ret2;exact ⟨r,code,K',T',q',rfl,HE.out⟩
theorem awake10_spec (w:World):Calls Tryz.prog 25 #[] w fun e w'=>e=.returned (.bool true)/\Upd [] w w':=by
 go_enter Tryz.func25,Tryz.ntmps25
 go_wp2_with fail;refine (knew_spec 3 20 w (by omega) (by omega) (by omega) (by omega)).mono ?_;rintro e w1 ⟨b,T,q,rfl,hk,hu,hs⟩;have H1:=Lib.hid (And.intro hk (And.intro hu hs));clear hk hu hs;go_wp2_with fail;refine (var_live b 0 _ T q w1 H1.out.1).mono ?_;rintro e w2 hE;obtain ⟨r1,c1,K1,T1,q1,rfl,M1,hk,hu,hs⟩:=hE.ex;have H2:=Lib.hid (And.intro M1 (And.intro hk (And.intro (H1.out.2.1.then hu fun x hx=>(H1.out.2.2 x hx)) (sub_trans H1.out.2.2 hs H1.out.2.1.size))));clear hE M1 hk hu hs;go_wp2_with fail;refine (var_live b 1 _ T1 q1 w2 H2.out.2.1).mono ?_;rintro e w3 hE;obtain ⟨r2,c2,K2,T2,q2,rfl,M2,hk,hu,hs⟩:=hE.ex;obtain ⟨rfl,rfl,hT⟩:=two_vars (by omega) (by omega) (by omega) (by omega) H2.out.2.1.ok (H2.out.2.1.ti.uni H2.out.2.1.ok.wf) hk.ok (hk.ti.uni hk.ok.wf) H2.out.1 M2;have H3:=Lib.hid (And.intro hT (And.intro hk (And.intro (H2.out.2.2.1.then hu fun x hx=>(H2.out.2.2.2 x hx)) (sub_trans H2.out.2.2.2 hs H2.out.2.2.1.size))));clear hE M2 hk hu hs hT;go_wp2_with fail;refine (and_live b r1 r2 K2 T2 q2 w3 H3.out.2.1 ((H3.out.1.tk r1).2 (by simp)) ((H3.out.1.tk r2).2 (by simp))).mono ?_;rintro e w4 hE;obtain ⟨f,c3,K3,T3,q3,rfl,O3,hk,hu,hs⟩:=hE.ex;obtain ⟨rfl,hN⟩:=H3.out.1.and (by omega) (by omega) hk.ok (hk.ti.uni hk.ok.wf) O3;have H4:=Lib.hid (And.intro hN (And.intro hk (And.intro (H3.out.2.2.1.then hu fun x hx=>(H3.out.2.2.2 x hx)) (sub_trans H3.out.2.2.2 hs H3.out.2.2.1.size))));clear hE O3 hk hu hs hN;go_wp2_with fail;refine (xor_live b f f K3 T3 q3 w4 H4.out.2.1 ((H4.out.1.tk f).2 (by simp)) ((H4.out.1.tk f).2 (by simp))).mono ?_;rintro e w5 hE;obtain ⟨g,c4,K4,T4,q4,rfl,O4,hk,hu,hs⟩:=hE.ex;obtain ⟨rfl,rfl,hN⟩:=H4.out.1.xor hk.ok (hk.ti.uni hk.ok.wf) O4;have H5:=Lib.hid (And.intro hN (And.intro hk (And.intro (H4.out.2.2.1.then hu fun x hx=>(H4.out.2.2.2 x hx)) (sub_trans H4.out.2.2.2 hs H4.out.2.2.1.size))));clear hE O4 hk hu hs hN;go_wp2_with fail;refine (ite_live b r1 r2 0 K4 T4 q4 w5 H5.out.2.1 ((H5.out.1.tk r1).2 (by simp)) ((H5.out.1.tk r2).2 (by simp)) ((H5.out.1.tk 0).2 (by simp))).mono ?_;rintro e w6 hE;obtain ⟨h,c5,K5,T5,q5,rfl,O5,hk,hu,hs⟩:=hE.ex;obtain ⟨rfl,rfl,hus,hho⟩:=H5.out.1.ite hk.ok (hk.ti.uni hk.ok.wf) O5;have hf2:=H5.out.1.f2;have hf32:=hk.ok.ref_lt (hk.ok.wf.ht h (by omega)).2;have H6:=Lib.hid (And.intro hus (And.intro hho (And.intro hk (H5.out.2.2.1.then hu fun x hx=>(H5.out.2.2.2 x hx)))));clear hE O5 hk hu hs hus hho
 have hgt:(1:Int)<(h:Int):=by omega
 have hhl:K5.holds.length<=1048576:=by
  have h1:=H6.out.2.2.1.ok.wf.len;have h2:=H6.out.2.2.1.ok.wf.ul;have h3:=H6.out.2.2.1.ok.wf.ok.lp;have h4:=H6.out.2.2.1.ok.wf.ok.pm;omega
 go_wp2_with fail;refine (held_spec b h K5 T5 q5 w6 H6.out.2.2.1.mem hhl (by rw [H6.out.2.1];omega) (by omega)).mono ?_;rintro e w7 ⟨rfl,rfl⟩;rw [H6.out.2.1];go_wp2_with fail;refine (live_count b K5 T5 q5 _ H6.out.2.2.1.mem).mono ?_;rintro e w8 ⟨rfl,rfl⟩;rw [H6.out.1];go_wp2_with fail;go_ret;exact ⟨rfl,H6.out.2.2.2⟩
end Go.Proofs.YtpfafhmkbcahhaaGreat
