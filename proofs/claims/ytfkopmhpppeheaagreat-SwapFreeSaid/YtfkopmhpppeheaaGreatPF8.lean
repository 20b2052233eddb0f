import Derived.Test.YtfkopmhpppeheaaGreatPF7
set_option maxRecDepth 100000
set_option maxHeartbeats 3200000
namespace Go.Proofs.YtfkopmhpppeheaaGreat
open Go.RowKit Go.Maps Go.ChangeMaps Go.WideShapes
structure EndS (K0 K:KV) (M:List Nat) (r:Nat) (ok:Bool) (i:Nat) (K':KV):Prop where
 ext:K'.Ext K
 hd:∀ x,K'.hold x=K0.hold x+(M.drop i).count x+(if x=r/\ok=true/\r∈M.take i then 1 else 0)
 tr:M≠[]->K'.trail=[]
 st:M=[]->K'=K
theorem EndS.start {K0 K:KV} {M:List Nat} {r:Nat} {ok:Bool} (hh:∀ x,K.hold x=K0.hold x+M.count x) (ht:M≠[]->K.trail=[]):EndS K0 K M r ok 0 K :=
 ⟨.refl K,fun x=>by rw [hh];simp,ht,fun _=>rfl⟩
theorem take_succ_mem {M:List Nat} {i f r:Nat} (hf:M[i]?=some f):r∈M.take (i+1)↔r∈M.take i\/r=f:=by
 rw [List.take_add_one,hf];simp
theorem drop_count {M:List Nat} {i f x:Nat} (hf:M[i]?=some f):(M.drop i).count x=(M.drop (i+1)).count x+(if f=x then 1 else 0):=by
 obtain ⟨h1,h2⟩:=List.getElem?_eq_some_iff.1 hf;rw [List.drop_eq_getElem_cons h1,List.count_cons,h2];simp
theorem EndS.keep {K0 K K':KV} {M:List Nat} {r i:Nat} (h:EndS K0 K M r true i K') (hf:M[i]?=some r) (hn:r∉M.take i):EndS K0 K M r true (i+1) K':=by
 refine ⟨h.ext,fun x=>?_,h.tr,h.st⟩;rw [h.hd,drop_count hf]
 simp only [take_succ_mem hf,hn,and_false,if_false,or_true,and_true]
 by_cases e:x=r
 ·subst e;simp;omega
 ·simp [e,Ne.symm e]
theorem EndS.drop {K0 K K' K2:KV} {M:List Nat} {r i f:Nat} {ok:Bool} (h:EndS K0 K M r ok i K') (hf:M[i]?=some f) (hn:f=r->ok=true->r∈M.take i) (hd:K'.Dropped f K2) (h2:2<=f):EndS K0 K M r ok (i+1) K2:=by
 refine ⟨hd.ext.trans h.ext,fun x=>?_,fun _=>hd.tr,fun e=>by subst e;simp at hf⟩;rw [hd.hd,h.hd,drop_count hf]
 have e1:(x=r/\ok=true/\r∈M.take (i+1))↔(x=r/\ok=true/\r∈M.take i):=by
  rw [take_succ_mem hf];constructor
  ·rintro ⟨a,b,c | c⟩
   ·exact ⟨a,b,c⟩
   ·exact ⟨a,b,hn c.symm b⟩
  ·rintro ⟨a,b,c⟩;exact ⟨a,b,.inl c⟩
 simp only [e1]
 by_cases e:x=f
 ·subst e;simp [h2];omega
 ·simp [e,Ne.symm e]
theorem EndS.pos {K0 K K':KV} {M:List Nat} {r i f:Nat} {ok:Bool} (h:EndS K0 K M r ok i K') (hf:M[i]?=some f):0<K'.hold f:=by
 rw [h.hd,drop_count hf];simp;omega
def endR (M:List Nat) (r:Nat) (code:Int):Nat × Int:=if code≠0 then (0,code) else if r<2\/r∈M then (r,0) else (0,8)
structure EndW (w0:World) (wb b r:Nat) (K0 K:KV) (q0:KPtr) (M:List Nat) (lvv mv:Value) (ok:Bool) (i:Nat) (w:World):Prop where
 ex:∃ K' T' q',WK w wb b K' T' q' M lvv mv/\EndS K0 K M r ok i K'/\Upd (wkF wb b q0 lvv mv) w0 w/\Sub (q0.all b) w0 (q'.all b)
theorem EndW.drop {w0 w:World} {wb b r i f:Nat} {K0 K:KV} {q0:KPtr} {M:List Nat} {lvv mv:Value} {ok:Bool} (h:EndW w0 wb b r K0 K q0 M lvv mv ok i w) (hf:M[i]?=some f) (hn:f=r->ok=true->r∈M.take i) (h32:f<=4294967295) :
  Calls Tryz.prog 34 #[.pointer (some ⟨b,0,none⟩),.int .u32 f] w fun e w'=>e=.returned (.int .i64 0)/\EndW w0 wb b r K0 K q0 M lvv mv ok (i+1) w':=by
 obtain ⟨K',T',q',hw,hs,hu,hsub⟩:=h.ex;have hp:=hs.pos hf;refine (drop_spec b f K' T' q' w hw.ker h32).mono ?_;rintro e w' ⟨code,K2,T2,q2,rfl,hc,hk,hu2,hs2⟩
 rcases hc with ⟨_,_,h0,_⟩ | ⟨rfl,_,hd⟩
 ·omega
 ·have hw2:=hw.kernel hk hd.ext.lv.symm hu2 hs2
  have hsz:=hu.size;refine ⟨rfl,K2,T2,q2,hw2,hs.drop hf hn hd (hw.ker.ok.wf.ht f hp).1,hu.then hu2 fun x hx=>?_,fun k hk=>?_⟩
  ·rcases hsub x hx with h | h
   ·exact .inl (List.mem_append.2 (.inl h))
   ·exact .inr h
  ·rcases hs2 k hk with h | h
   ·exact hsub k h
   ·right;omega
theorem EndW.keep {w0 w:World} {wb b r i:Nat} {K0 K:KV} {q0:KPtr} {M:List Nat} {lvv mv:Value} (h:EndW w0 wb b r K0 K q0 M lvv mv true i w) (hf:M[i]?=some r) (hn:r∉M.take i):EndW w0 wb b r K0 K q0 M lvv mv true (i+1) w:=by
 obtain ⟨K',T',q',hw,hs,hu,hsub⟩:=h.ex;exact ⟨K',T',q',hw,hs.keep hf hn,hu,hsub⟩
theorem EndW.cells {w0 w:World} {wb b r i g n c:Nat} {K0 K:KV} {q0:KPtr} {M:List Nat} {lvv mv:Value} {ok:Bool} (h:EndW w0 wb b r K0 K q0 M lvv mv ok i w) (hmv:mv=.slice (some ⟨g,0,none⟩) n c) :
  w.cell? ⟨wb,0,none⟩=some (.pointer (some ⟨b,0,none⟩))/\∀ (j f:Nat),M[j]?=some f->w.cell? ⟨g,j,none⟩=some (.int .u32 f):=by
 obtain ⟨K',T',q',hw,hs,hu,hsub⟩:=h.ex;refine ⟨cell_at hw.wk.blk rfl,fun j f hf=>?_⟩;have:=hw.wk.ms;rw [hmv] at this;exact row_cell this (by simp [flatRefs,hf])
theorem EndW.done {w0 w:World} {wb b r:Nat} {K0 K:KV} {q0:KPtr} {M:List Nat} {lvv mv:Value} {ok:Bool} (h:EndW w0 wb b r K0 K q0 M lvv mv ok M.length w) :
  w.cell? ⟨wb,2,none⟩=some mv/\w.frozen? ⟨wb,2,none⟩=false/\(w.setCell ⟨wb,2,none⟩ (.slice none 0 0)).cell? ⟨wb,0,none⟩=some (.pointer (some ⟨b,0,none⟩)) /\
  ∃ K' T' q',KerIn (w.setCell ⟨wb,2,none⟩ (.slice none 0 0)) b K' T' q'/\Upd (wkF wb b q0 lvv mv) w0 (w.setCell ⟨wb,2,none⟩ (.slice none 0 0))/\Sub (q0.all b) w0 (q'.all b)/\K'.Ext K /\
   (∀ x,K'.hold x=K0.hold x+(if x=r/\ok=true/\r∈M then 1 else 0))/\(M≠[]->K'.trail=[])/\(M=[]->K'=K):=by
 obtain ⟨K',T',q',hw,hs,hu,hsub⟩:=h.ex;have hwm:wb∈wkF wb b q0 lvv mv:=List.mem_append.2 (.inr (mem_workF.2 (.inl rfl)));have hbk:=hw.wk.blk;refine ⟨cell_at hbk rfl,frozen_at 2 hbk,?_,K',T',q',?_,hu.setCell (p:=⟨wb,2,none⟩) (.inl hwm) _,hsub,hs.ext,fun x=>?_,hs.tr,hs.st⟩
 ·have e:=heap_set_eq (j:=2) hbk (.slice none 0 0)
  exact cell_at e rfl
 ·exact hw.ker.upd ((Upd.refl [wb] w).setCell (p:=⟨wb,2,none⟩) (.inl (by simp)) _) fun k hk hm=>by
   simp at hm
   exact hw.dj k hk (mem_workF.2 (.inl hm))
 ·rw [hs.hd];simp
structure EndP (wb b r:Nat) (code:Int) (K0 K:KV) (q:KPtr) (M:List Nat) (lvv mv:Value) (w w':World):Prop where
 ex : ∃ (K' : KV) (T' : List DM) (q' : KPtr), KerIn w' b K' T' q' /\ Upd (wkF wb b q lvv mv) w w' /\ Sub (q.all b) w (q'.all b) /\ K'.Ext K /\
    (∀ x,K'.hold x=K0.hold x+(if x=r/\decide (2<=r/\code=0)=true/\r∈M then 1 else 0))/\(M≠[]->K'.trail=[])/\(code=0->r<2->K'.trail=[])/\(M=[]->¬ (code=0/\r<2)->K'=K)
theorem wend_node (wb b r:Nat) (code:Int) (K0 K:KV) (T:List DM) (q:KPtr) (M:List Nat) (lvv mv:Value) (w:World) (h:WK w wb b K T q M lvv mv) (hM:M.length<=1099511627776) (hr:r<=4294967295) (hM32:∀ x,x∈M->x<=4294967295)
  (hh:∀ x,K.hold x=K0.hold x+M.count x) (htr:M≠[]->K.trail=[]) (h2:2<=r) :
  Calls Tryz.prog 211 #[.pointer (some ⟨wb,0,none⟩),.int .u32 r,.int .i64 code] w fun e w' =>
   e=.returned (.tuple #[.int .u32 (endR M r code).1,.int .i64 (endR M r code).2])/\EndP wb b r code K0 K q M lvv mv w w':=by
 have HS:Hid (EndW w wb b r K0 K q M lvv mv (decide (2<=r/\code=0)) 0 w):=⟨K,T,q,h,EndS.start hh htr,Upd.refl _ _,Sub.refl _ _⟩;have HM32:=Lib.hid hM32;obtain ⟨fa,fc,hmv,_⟩:=row_nil_len h.wk.ms
 have c2:w.cell? ⟨wb,2,none⟩=some (.slice fa M.length fc):=by rw [<- hmv];exact cell_at h.wk.blk rfl
 have hrow:=h.wk.ms;rw [hmv] at hrow;have HROW:=Lib.hid (fun hn=>row_some hrow hn);have HMV:=Lib.hid hmv
 have hb0:((r:Int) == 0)=false:=by simp;omega
 have hb1:((r:Int) == 1)=false:=by simp;omega
 have hb2:¬ (r=0):=by omega
 have hb3:¬ (r=1):=by omega
 have hml:M.length<=9223372036854775806:=by omega
 clear h hh htr hmv hrow hM32
 go_enter Tryz.func211,Tryz.ntmps211
 go_wp2_with fail
 go_loopg [8,22] M.length (fun g s8 s22 wr=>∃ i:Nat,M.length-i=g/\i<=M.length/\s22=.int .i64 i/\s8=.bool (decide (2<=r/\code=0)&&decide (r∈M.take i))/\EndW w wb b r K0 K q M lvv mv (decide (2<=r/\code=0)) i wr)
 case atStart =>
  exact ⟨0,by omega,by omega,rfl,by simp,HS.out⟩
 case round =>
  obtain ⟨i,rfl,hi,rfl,rfl,hE⟩:=hrel
  by_cases hlt:i<M.length
  ·obtain ⟨f,hf⟩ : ∃ f,M[i]?=some f:=⟨_,List.getElem?_eq_getElem hlt⟩
   obtain ⟨g,rfl⟩:=HROW.out (by omega);obtain ⟨c0,hcs⟩:=hE.cells HMV.out;have cf:=hcs i f hf
   have hil:(i:Int)<(M.length:Int):=by omega
   have hf32:f<=4294967295:=HM32.out f (List.mem_of_getElem? hf);have HF:=Lib.hid hf;have HE:=Lib.hid hE;clear hE hcs hf
   have HKK:Hid ((f=r->decide (2<=r/\code=0)=true->r∈M.take i)->(decide (2<=r/\code=0)&&decide (r∈M.take (i+1)))=(decide (2<=r/\code=0)&&decide (r∈M.take i))):=by
    intro hn
    cases hok:decide (2<=r/\code=0) with
    | false=>rfl
    | true =>
     have e:(r∈M.take (i+1))↔(r∈M.take i):=by
      rw [take_succ_mem HF.out];constructor
      ·rintro (h | h)
       ·exact h
       ·exact hn h.symm hok
      ·exact .inl
     simp [e]
   by_cases hfr:f=r
   ·cases hk:(decide (2<=r/\code=0)&&decide (r∈M.take i)) with
    | true =>
     have HN:Hid (f=r->decide (2<=r/\code=0)=true->r∈M.take i):=by
      intro _ _;simp at hk;exact hk.2
     have HK:=Lib.hid (HKK.out HN.out);rw [hk] at HK
     have hfe:((f:Int) == (r:Int))=true:=by simp [hfr]
     clear hfr;go_wp2_with fail;refine (HE.out.drop HF.out HN.out hf32).mono ?_;rintro e w1 ⟨rfl,hE1⟩;have HE1:=Lib.hid hE1;clear hE1;go_wp2_with fail
     go_roundg (M.length-(i+1))
     case measure=>omega
     case rel=>exact ⟨i+1,rfl,by omega,by simp,by rw [HK.out],HE1.out⟩
    | false =>
     by_cases hc:code=0
     ·subst hfr
      have hok:decide (2<=f/\code=0)=true:=by simp [h2,hc]
      have HNI:Hid (f∉M.take i):=by
       intro hm
       rw [hok] at hk;simp at hk
       exact hk hm
      have HE1:Hid (EndW w wb b f K0 K q M lvv mv (decide (2<=f/\code=0)) (i+1) wr):=by
       have:=HE.out;rw [hok] at this ⊢;exact this.keep HF.out HNI.out
      have HK:Hid ((decide (2<=f/\code=0)&&decide (f∈M.take (i+1)))=true):=by
       show _=true
       rw [hok];simp [take_succ_mem HF.out]
      have HCC:=Lib.hid hc;subst hc;clear hok HKK;go_wp2_with fail
      go_roundg (M.length-(i+1))
      case measure=>omega
      case rel=>exact ⟨i+1,rfl,by omega,by simp,by rw [HK.out],HE1.out⟩
     ·have HN:Hid (f=r->decide (2<=r/\code=0)=true->r∈M.take i):=by
       intro _ h;simp at h;exact absurd h.2 hc
      have HK:=Lib.hid (HKK.out HN.out);rw [hk] at HK
      have hfe:((f:Int) == (r:Int))=true:=by simp [hfr]
      have hce:(code == 0)=false:=by simpa using hc
      clear hfr;go_wp2_with fail;refine (HE.out.drop HF.out HN.out hf32).mono ?_;rintro e w1 ⟨rfl,hE1⟩;have HE1:=Lib.hid hE1;clear hE1;go_wp2_with fail
      go_roundg (M.length-(i+1))
      case measure=>omega
      case rel=>exact ⟨i+1,rfl,by omega,by simp,by rw [HK.out],HE1.out⟩
   ·have HN:Hid (f=r->decide (2<=r/\code=0)=true->r∈M.take i):=fun h=>absurd h hfr
    have HK:=Lib.hid (HKK.out HN.out)
    have hfe:((f:Int) == (r:Int))=false:=by simp;omega
    have hfe2:¬ ((f:Int)=(r:Int)):=by omega
    generalize (decide (2<=r/\code=0)&&decide (r∈M.take i))=kb at HK;go_wp2_with fail;refine (HE.out.drop HF.out HN.out hf32).mono ?_;rintro e w1 ⟨rfl,hE1⟩;have HE1:=Lib.hid hE1;clear hE1;go_wp2_with fail
    go_roundg (M.length-(i+1))
    case measure=>omega
    case rel=>exact ⟨i+1,rfl,by omega,by simp,by rw [HK.out],HE1.out⟩
  ·obtain rfl:i=M.length:=by omega
   obtain ⟨e2,f2,e0,hdone⟩:=hE.done
   have HD:Hid (EndP wb b r code K0 K q M lvv mv w (wr.setCell ⟨wb,2,none⟩ (.slice none 0 0))):=by
    obtain ⟨K',T',q',a1,a2,a3,a4,a5,a6,a7⟩:=hdone;exact ⟨K',T',q',a1,a2,a3,a4,a5,a6,fun _ h=>by omega,fun h _=>a7 h⟩
   have hil:¬ ((M.length:Int)<(M.length:Int)):=by omega
   rw [List.take_length];clear hE hdone
   by_cases hc:code=0
   ·by_cases hm:r∈M
    ·have hk:(decide (2<=r/\code=0)&&decide (r∈M))=true:=by simp [h2,hc,hm]
     have HR:Hid (endR M r code=(r,0)):=by
      show endR M r code=(r,0)
      unfold endR;rw [if_neg (by simp [hc]),if_pos (.inr hm)]
     rw [hk];clear hk;subst hc;go_wp2_with fail;go_ret2;exact ⟨by rw [HR.out];rfl,HD.out⟩
    ·have hk:(decide (2<=r/\code=0)&&decide (r∈M))=false:=by simp [hm]
     have HR:Hid (endR M r code=(0,8)):=by
      show endR M r code=(0,8)
      unfold endR;rw [if_neg (by simp [hc]),if_neg (by simp [hm];omega)]
     rw [hk];clear hk;subst hc;go_wp2_with fail;go_ret2;exact ⟨by rw [HR.out];rfl,HD.out⟩
   ·have hce:(code != 0)=true:=by simpa using hc
    have HR:Hid (endR M r code=(0,code)):=by
     show endR M r code=(0,code)
     unfold endR;rw [if_pos hc]
    go_wp2_with fail;go_ret2;exact ⟨by rw [HR.out];rfl,HD.out⟩
theorem KV.Ok.tk_const {K:KV} (h:K.Ok) {r:Nat} (h2:r<2):K.A.tk r=true:=by
 obtain rfl | rfl:r=0\/r=1:=by omega
 ·exact h.wf.ok.tk01.1
 ·exact h.wf.ok.tk01.2
theorem KV.Ext.keepL {K K':KV} (he:K'.Ext K) (r:Nat):(K'.keepK r).Ext K:=by
 refine ⟨fun s p h1 h3=>?_,?_,?_,?_,?_⟩
 ·rw [K'.keepK_A] at h1;exact he.nd s p h1 h3
 ·rw [K'.keepK_A];exact he.pl
 ·rw [K'.keepK_vars];exact he.vr
 ·rw [K'.keepK_order];exact he.od
 ·rw [K'.keepK_level];exact he.lv
theorem end_const {w w1 w2:World} {wb b r:Nat} {K0 K:KV} {q:KPtr} {M:List Nat} {lvv mv:Value} (h2:r<2) {K' K2:KV} {T' T2:List DM} {q' q2:KPtr} (hk:KerIn (w1.setCell ⟨wb,2,none⟩ (.slice none 0 0)) b K' T' q')
  (hu:Upd (wkF wb b q lvv mv) w (w1.setCell ⟨wb,2,none⟩ (.slice none 0 0))) (hs:Sub (q.all b) w (q'.all b)) (he:K'.Ext K) (hd:∀ x,K'.hold x=K0.hold x+(if x=r/\false=true/\r∈M then 1 else 0))
  (hk2:KerIn w2 b K2 T2 q2) (hK2:K2=K'.keepK r) (hu2:Upd (q'.all b) (w1.setCell ⟨wb,2,none⟩ (.slice none 0 0)) w2) (hs2:∀ k,k∈q2.all b->k∈q'.all b):EndP wb b r 0 K0 K q M lvv mv w w2:=by
 have hsz:=hu.size;have hkp:=hk.ok.wf.keepK_hold (hk.ok.tk_const h2);subst hK2;refine ⟨_,T2,q2,hk2,hu.then hu2 fun x hx=>?_,fun k hk=>hs k (hs2 k hk),he.keepL r,fun x=>?_,fun _=>K'.keepK_trail r,fun _ _=>K'.keepK_trail r,fun _ h=>absurd ⟨rfl,h2⟩ h⟩
 ·rcases hs x hx with h | h
  ·exact .inl (List.mem_append.2 (.inl h))
  ·exact .inr h
 ·have e:¬ (2<=r):=by omega
  rw [hkp,hd];simp [e]
theorem wend_const (wb b r:Nat) (code:Int) (K0 K:KV) (T:List DM) (q:KPtr) (M:List Nat) (lvv mv:Value) (w:World) (h:WK w wb b K T q M lvv mv) (hM:M.length<=1099511627776) (hM32:∀ x,x∈M->x<=4294967295)
  (hh:∀ x,K.hold x=K0.hold x+M.count x) (htr:M≠[]->K.trail=[]) (h2:r<2) :
  Calls Tryz.prog 211 #[.pointer (some ⟨wb,0,none⟩),.int .u32 r,.int .i64 code] w fun e w' =>
   e=.returned (.tuple #[.int .u32 (endR M r code).1,.int .i64 (endR M r code).2])/\EndP wb b r code K0 K q M lvv mv w w':=by
 have HS:Hid (EndW w wb b r K0 K q M lvv mv false 0 w):=⟨K,T,q,h,EndS.start hh htr,Upd.refl _ _,Sub.refl _ _⟩;have HM32:=Lib.hid hM32;obtain ⟨fa,fc,hmv,_⟩:=row_nil_len h.wk.ms
 have c2:w.cell? ⟨wb,2,none⟩=some (.slice fa M.length fc):=by rw [<- hmv];exact cell_at h.wk.blk rfl
 have hrow:=h.wk.ms;rw [hmv] at hrow;have HROW:=Lib.hid (fun hn=>row_some hrow hn);have HMV:=Lib.hid hmv
 have hml:M.length<=9223372036854775806:=by omega
 have hr01:r=0\/r=1:=by omega
 clear h hh htr hmv hrow hM32
 rcases hr01 with rfl | rfl
 ·go_enter Tryz.func211,Tryz.ntmps211
  go_wp2_with fail
  go_loopg [8,22] M.length (fun g s8 s22 wr=>∃ i:Nat,M.length-i=g/\i<=M.length/\s22=.int .i64 i/\s8=.bool true/\EndW w wb b 0 K0 K q M lvv mv false i wr)
  case atStart =>
   exact ⟨0,by omega,by omega,rfl,rfl,HS.out⟩
  case round =>
   obtain ⟨i,rfl,hi,rfl,rfl,hE⟩:=hrel
   by_cases hlt:i<M.length
   ·obtain ⟨f,hf⟩ : ∃ f,M[i]?=some f:=⟨_,List.getElem?_eq_getElem hlt⟩
    obtain ⟨g,rfl⟩:=HROW.out (by omega);obtain ⟨c0,hcs⟩:=hE.cells HMV.out;have cf:=hcs i f hf
    have hil:(i:Int)<(M.length:Int):=by omega
    have hf32:f<=4294967295:=HM32.out f (List.mem_of_getElem? hf);have HF:=Lib.hid hf;have HE:=Lib.hid hE
    have HN:Hid (f=0->false=true->0∈M.take i):=fun _ h=>by cases h
    clear hE hcs hf
    cases hfe:((f:Int) == 0) with
    | true =>
     go_wp2_with fail;refine (HE.out.drop HF.out HN.out hf32).mono ?_;rintro e w1 ⟨rfl,hE1⟩;have HE1:=Lib.hid hE1;clear hE1;go_wp2_with fail
     go_roundg (M.length-(i+1))
     case measure=>omega
     case rel=>exact ⟨i+1,rfl,by omega,by simp,rfl,HE1.out⟩
    | false =>
     have hfe2:¬ ((f:Int)=0):=by simpa using hfe
     go_wp2_with fail;refine (HE.out.drop HF.out HN.out hf32).mono ?_;rintro e w1 ⟨rfl,hE1⟩;have HE1:=Lib.hid hE1;clear hE1;go_wp2_with fail
     go_roundg (M.length-(i+1))
     case measure=>omega
     case rel=>exact ⟨i+1,rfl,by omega,by simp,rfl,HE1.out⟩
   ·obtain rfl:i=M.length:=by omega
    obtain ⟨e2,f2,e0,K',T',q',a1,a2,a3,a4,a5,a6,a7⟩:=hE.done;have HD:=Lib.hid (And.intro hE (And.intro a1 (And.intro a2 (And.intro a3 (And.intro a4 (And.intro a5 (And.intro a6 a7)))))))
    have hil:¬ ((M.length:Int)<(M.length:Int)):=by omega
    clear hE a1 a2 a3 a4 a5 a6 a7
    by_cases hc:code=0
    ·have HR:Hid (endR M 0 code=(0,0)):=by
      show endR M 0 code=(0,0)
      unfold endR;rw [if_neg (by simp [hc]),if_pos (.inl (by omega))]
     subst hc;go_wp2_with fail
     have hhold:K'.hold 0=0:=by
      by_cases h0:0<K'.hold 0
      ·have:=(HD.out.2.1.ok.wf.ht 0 h0).1;omega
      ·omega
     refine (keep_any b 0 K' T' q' _ HD.out.2.1 (by omega) HD.out.2.1.ok.wf.ok.tk01.1).mono ?_;rintro e w1 ⟨code1,K2,q2,rfl,hcd,hk,hu3,hs3⟩
     rcases hcd with ⟨_,hb,_⟩ | ⟨rfl,_,hK2⟩
     ·omega
     ·have HE:=Lib.hid (end_const (by omega) HD.out.2.1 HD.out.2.2.1 HD.out.2.2.2.1 HD.out.2.2.2.2.1 HD.out.2.2.2.2.2.1 hk hK2 hu3 hs3)
      clear hk hu3 hs3 hK2;go_wp2_with fail;go_ret2;exact ⟨by rw [HR.out];rfl,HE.out⟩
    ·have hce:(code != 0)=true:=by simpa using hc
     have HR:Hid (endR M 0 code=(0,code)):=by
      show endR M 0 code=(0,code)
      unfold endR;rw [if_pos hc]
     have HE:Hid (EndP wb b 0 code K0 K q M lvv mv w (wr.setCell ⟨wb,2,none⟩ (.slice none 0 0))):=by
      obtain ⟨_,b1,b2,b3,b4,b5,b6,b7⟩:=HD.out;refine ⟨K',T',q',b1,b2,b3,b4,fun x=>?_,b6,fun h=>absurd h hc,fun h _=>b7 h⟩
      rw [b5];simp
     clear HD;go_wp2_with fail;go_ret2;exact ⟨by rw [HR.out];rfl,HE.out⟩
 ·go_enter Tryz.func211,Tryz.ntmps211
  go_wp2_with fail
  go_loopg [8,22] M.length (fun g s8 s22 wr=>∃ i:Nat,M.length-i=g/\i<=M.length/\s22=.int .i64 i/\s8=.bool true/\EndW w wb b 1 K0 K q M lvv mv false i wr)
  case atStart =>
   exact ⟨0,by omega,by omega,rfl,rfl,HS.out⟩
  case round =>
   obtain ⟨i,rfl,hi,rfl,rfl,hE⟩:=hrel
   by_cases hlt:i<M.length
   ·obtain ⟨f,hf⟩ : ∃ f,M[i]?=some f:=⟨_,List.getElem?_eq_getElem hlt⟩
    obtain ⟨g,rfl⟩:=HROW.out (by omega);obtain ⟨c0,hcs⟩:=hE.cells HMV.out;have cf:=hcs i f hf
    have hil:(i:Int)<(M.length:Int):=by omega
    have hf32:f<=4294967295:=HM32.out f (List.mem_of_getElem? hf);have HF:=Lib.hid hf;have HE:=Lib.hid hE
    have HN:Hid (f=1->false=true->1∈M.take i):=fun _ h=>by cases h
    clear hE hcs hf
    cases hfe:((f:Int) == 1) with
    | true =>
     go_wp2_with fail;refine (HE.out.drop HF.out HN.out hf32).mono ?_;rintro e w1 ⟨rfl,hE1⟩;have HE1:=Lib.hid hE1;clear hE1;go_wp2_with fail
     go_roundg (M.length-(i+1))
     case measure=>omega
     case rel=>exact ⟨i+1,rfl,by omega,by simp,rfl,HE1.out⟩
    | false =>
     have hfe2:¬ ((f:Int)=1):=by simpa using hfe
     go_wp2_with fail;refine (HE.out.drop HF.out HN.out hf32).mono ?_;rintro e w1 ⟨rfl,hE1⟩;have HE1:=Lib.hid hE1;clear hE1;go_wp2_with fail
     go_roundg (M.length-(i+1))
     case measure=>omega
     case rel=>exact ⟨i+1,rfl,by omega,by simp,rfl,HE1.out⟩
   ·obtain rfl:i=M.length:=by omega
    obtain ⟨e2,f2,e0,K',T',q',a1,a2,a3,a4,a5,a6,a7⟩:=hE.done;have HD:=Lib.hid (And.intro hE (And.intro a1 (And.intro a2 (And.intro a3 (And.intro a4 (And.intro a5 (And.intro a6 a7)))))))
    have hil:¬ ((M.length:Int)<(M.length:Int)):=by omega
    clear hE a1 a2 a3 a4 a5 a6 a7
    by_cases hc:code=0
    ·have HR:Hid (endR M 1 code=(1,0)):=by
      show endR M 1 code=(1,0)
      unfold endR;rw [if_neg (by simp [hc]),if_pos (.inl (by omega))]
     subst hc;go_wp2_with fail
     have hhold:K'.hold 1=0:=by
      by_cases h0:0<K'.hold 1
      ·have:=(HD.out.2.1.ok.wf.ht 1 h0).1;omega
      ·omega
     refine (keep_any b 1 K' T' q' _ HD.out.2.1 (by omega) HD.out.2.1.ok.wf.ok.tk01.2).mono ?_;rintro e w1 ⟨code1,K2,q2,rfl,hcd,hk,hu3,hs3⟩
     rcases hcd with ⟨_,hb,_⟩ | ⟨rfl,_,hK2⟩
     ·omega
     ·have HE:=Lib.hid (end_const (by omega) HD.out.2.1 HD.out.2.2.1 HD.out.2.2.2.1 HD.out.2.2.2.2.1 HD.out.2.2.2.2.2.1 hk hK2 hu3 hs3)
      clear hk hu3 hs3 hK2;go_wp2_with fail;go_ret2;exact ⟨by rw [HR.out];rfl,HE.out⟩
    ·have hce:(code != 0)=true:=by simpa using hc
     have HR:Hid (endR M 1 code=(0,code)):=by
      show endR M 1 code=(0,code)
      unfold endR;rw [if_pos hc]
     have HE:Hid (EndP wb b 1 code K0 K q M lvv mv w (wr.setCell ⟨wb,2,none⟩ (.slice none 0 0))):=by
      obtain ⟨_,b1,b2,b3,b4,b5,b6,b7⟩:=HD.out;refine ⟨K',T',q',b1,b2,b3,b4,fun x=>?_,b6,fun h=>absurd h hc,fun h _=>b7 h⟩
      rw [b5];simp
     clear HD;go_wp2_with fail;go_ret2;exact ⟨by rw [HR.out];rfl,HE.out⟩
theorem wend_spec (wb b r:Nat) (code:Int) (K0 K:KV) (T:List DM) (q:KPtr) (M:List Nat) (lvv mv:Value) (w:World) (h:WK w wb b K T q M lvv mv) (hM:M.length<=1099511627776) (hr:r<=4294967295) (hM32:∀ x,x∈M->x<=4294967295)
  (hh:∀ x,K.hold x=K0.hold x+M.count x) (htr:M≠[]->K.trail=[]) :
  Calls Tryz.prog 211 #[.pointer (some ⟨wb,0,none⟩),.int .u32 r,.int .i64 code] w fun e w' =>
   e=.returned (.tuple #[.int .u32 (endR M r code).1,.int .i64 (endR M r code).2])/\EndP wb b r code K0 K q M lvv mv w w':=by
 by_cases h2:2<=r
 ·exact wend_node wb b r code K0 K T q M lvv mv w h hM hr hM32 hh htr h2
 ·exact wend_const wb b r code K0 K T q M lvv mv w h hM hM32 hh htr (by omega)
theorem Tryz.infoNode:(Tryz.prog.info? 116).map (fun i=>(i.zero,i.size,i.bytes))=some (some (.agg #[.int .i64 0,.int .u32 0,.int .u32 0]),3,16):=by kernel_rfl
def PlaceV.node (p:PlaceV):List Value:=[.int .i64 p.var,.int .u32 p.lo,.int .u32 p.hi]
def flatNodes (l:List PlaceV):List Value:=l.flatMap PlaceV.node
theorem flatNodes_snoc (l:List PlaceV) (p:PlaceV):flatNodes (l++[p])=flatNodes l++p.node:=by simp [flatNodes]
structure NdR (w:World) (v:Value) (l:List PlaceV) (wr:World):Prop where
 row:wr.ownsRow w.heap.size 116 3 v l.length (flatNodes l)
 up:Upd [] w wr
theorem wnodes_spec (wb b f0 f1 f2:Nat) (K:KV) (T:List DM) (q:KPtr) (M:List Nat) (lvv mv:Value) (p0 p1 p2:PlaceV) (w:World) (h:WK w wb b K T q M lvv mv)
  (h0:K.A.list[f0]?=some p0/\p0.taken=true/\f0<=4294967295) (h1:K.A.list[f1]?=some p1/\p1.taken=true/\f1<=4294967295) (h2:K.A.list[f2]?=some p2/\p2.taken=true/\f2<=4294967295) :
  Calls Tryz.prog 213 #[.pointer (some ⟨wb,0,none⟩),.agg #[.int .u32 f0,.int .u32 f1,.int .u32 f2]] w fun e w' =>
   ∃ v:Value,e=.returned v/\NdR w v [p0,p1,p2] w':=by
 have HW:=Lib.hid h;have H0:=Lib.hid h0;have H1:=Lib.hid h1;have H2:=Lib.hid h2;obtain ⟨i,hi0,hz0,hz1',hz2⟩:=info_parts Tryz.infoNode;have HI:=Lib.hid hi0;have HZ:=Lib.hid hz0;have HZ1:=Lib.hid hz1';have HZ2:=Lib.hid hz2
 have HN0:Hid (∀ wr,Upd [] w wr->WK wr wb b K T q M lvv mv):=fun wr u=>h.upd u (by simp)
 have hx0:∀ w,(Instr.index 228 (.agg #[.int .u32 f0,.int .u32 f1,.int .u32 f2]) (.int .i64 0)).run Tryz.prog w=.ok (.int .u32 f0) w:=fun _=>by kernel_rfl
 have hx1:∀ w,(Instr.index 228 (.agg #[.int .u32 f0,.int .u32 f1,.int .u32 f2]) (.int .i64 1)).run Tryz.prog w=.ok (.int .u32 f1) w:=fun _=>by kernel_rfl
 have hx2:∀ w,(Instr.index 228 (.agg #[.int .u32 f0,.int .u32 f1,.int .u32 f2]) (.int .i64 2)).run Tryz.prog w=.ok (.int .u32 f2) w:=fun _=>by kernel_rfl
 clear h h0 h1 h2 hi0 hz0 hz1' hz2
 go_enter Tryz.func213,Tryz.ntmps213
 go_wp2_with fail
 go_loopg [5,11] 3 (fun g s5 s11 wr=>(g=3/\s11=.int .i64 0/\NdR w s5 [] wr)\/(g=2/\s11=.int .i64 1/\NdR w s5 [p0] wr)\/(g=1/\s11=.int .i64 2/\NdR w s5 [p0,p1] wr)\/(g=0/\s11=.int .i64 3/\NdR w s5 [p0,p1,p2] wr))
 case atStart =>
  exact .inl ⟨rfl,rfl,World.ownsRow_nil _ _ _ _,(Upd.refl [] w).alloc _⟩
 case round =>
  rcases hrel with ⟨rfl,rfl,hR⟩ | ⟨rfl,rfl,hR⟩ | ⟨rfl,rfl,hR⟩ | ⟨rfl,rfl,hR⟩
  ·have HR:=Lib.hid hR
   have c0:wr.cell? ⟨wb,0,none⟩=some (.pointer (some ⟨b,0,none⟩)):=cell_at (HN0.out _ hR.up).wk.blk rfl;clear hR;go_wp2_with fail;refine (nodeof_yes b f0 K T q p0 _ (HN0.out _ HR.out.up).ker.mem H0.out.2.2 H0.out.1 H0.out.2.1).mono ?_;rintro e w1 ⟨rfl,hu⟩;have hbx:=heap_alloc_new w1 (.cells #[.int .i64 p0.var,.int .u32 p0.lo,.int .u32 p0.hi] 116 (0,0));have b0:(w1.alloc (.cells #[.int .i64 p0.var,.int .u32 p0.lo,.int .u32 p0.hi] 116 (0,0))).cell? ⟨w1.heap.size,0,none⟩=some (.int .i64 p0.var):=cell_at hbx rfl;have b1:(w1.alloc (.cells #[.int .i64 p0.var,.int .u32 p0.lo,.int .u32 p0.hi] 116 (0,0))).cell? ⟨w1.heap.size,1,none⟩=some (.int .u32 p0.lo):=cell_at hbx rfl;have b2:(w1.alloc (.cells #[.int .i64 p0.var,.int .u32 p0.lo,.int .u32 p0.hi] 116 (0,0))).cell? ⟨w1.heap.size,2,none⟩=some (.int .u32 p0.hi):=cell_at hbx rfl;have HU:=Lib.hid hu
   have hrow:=row_keep HR.out.row fun k hk=>hu.block k (HR.out.row.lt k hk).2 (by simp)
   obtain ⟨fa,fc,hv,_⟩:=row_nil_len hrow;have HV:=Lib.hid hv;subst hv;have HROW:=Lib.hid (hrow.alloc (.cells #[.int .i64 p0.var,.int .u32 p0.lo,.int .u32 p0.hi] 116 (0,0)));have hsz:w.heap.size<=w1.heap.size:=(HR.out.up.trans hu).size
   have HC2:Hid (∀ u,u∈p0.node->u.oneCell'=true):=by intro u hu;simp [PlaceV.node] at hu;rcases hu with rfl | rfl | rfl <;> rfl
   have hbs:w.heap.size<=((w1.alloc (.cells #[.int .i64 p0.var,.int .u32 p0.lo,.int .u32 p0.hi] 116 (0,0))).alloc (.cells #[.int .i64 p0.var,.int .u32 p0.lo,.int .u32 p0.hi] 116 (0,0))).heap.size:=by rw [World.size_alloc,World.size_alloc];omega
   clear hu hbx hrow
   go_wp2_with (at_builtin;go_must (refine wpList_append_lies _ rfl (.tmp 23) (.tmp 25) 282 rfl w.heap.size 116 i _ 3 16 Tryz.underlying282 HI.out HZ.out HZ1.out HZ2.out (by rfl) (by decide) _ 0 (flatNodes []) rfl (HROW.out.alloc _) ⟨w1.heap.size+1,0,none⟩ 1 1 p0.node rfl rfl ?c1 HC2.out (by omega) (by unfold maxLen;omega) (by omega) hbs _ rfl ?_))
   case c1 =>
    have e:=heap_alloc_new (w1.alloc (.cells #[.int .i64 p0.var,.int .u32 p0.lo,.int .u32 p0.hi] 116 (0,0))) (.cells #[.int .i64 p0.var,.int .u32 p0.lo,.int .u32 p0.hi] 116 (0,0));rw [World.size_alloc] at e;exact World.news_of_block e
   intro g5 cap w5 hown hgr hat hlt2
   have HE:Hid (NdR w (.slice (some ⟨g5,0,none⟩) 1 cap) ([]++[p0]) w5):=by
    refine ⟨?_,?_⟩
    ·rw [flatNodes_snoc];exact hown
    ·refine (((HR.out.up.trans HU.out).alloc _).alloc _).grown hgr fun k hk=>.inr ?_
     exact (HROW.out.lt k hk).1
   clear hown hgr hat hlt2;go_wp2_with fail
   go_roundg (2:Nat)
   case measure=>decide
   case rel=>exact .inr (.inl ⟨rfl,rfl,HE.out⟩)
  ·have HR:=Lib.hid hR
   have c0:wr.cell? ⟨wb,0,none⟩=some (.pointer (some ⟨b,0,none⟩)):=cell_at (HN0.out _ hR.up).wk.blk rfl;clear hR;go_wp2_with fail;refine (nodeof_yes b f1 K T q p1 _ (HN0.out _ HR.out.up).ker.mem H1.out.2.2 H1.out.1 H1.out.2.1).mono ?_;rintro e w1 ⟨rfl,hu⟩;have hbx:=heap_alloc_new w1 (.cells #[.int .i64 p1.var,.int .u32 p1.lo,.int .u32 p1.hi] 116 (0,0));have b0:(w1.alloc (.cells #[.int .i64 p1.var,.int .u32 p1.lo,.int .u32 p1.hi] 116 (0,0))).cell? ⟨w1.heap.size,0,none⟩=some (.int .i64 p1.var):=cell_at hbx rfl;have b1:(w1.alloc (.cells #[.int .i64 p1.var,.int .u32 p1.lo,.int .u32 p1.hi] 116 (0,0))).cell? ⟨w1.heap.size,1,none⟩=some (.int .u32 p1.lo):=cell_at hbx rfl;have b2:(w1.alloc (.cells #[.int .i64 p1.var,.int .u32 p1.lo,.int .u32 p1.hi] 116 (0,0))).cell? ⟨w1.heap.size,2,none⟩=some (.int .u32 p1.hi):=cell_at hbx rfl;have HU:=Lib.hid hu
   have hrow:=row_keep HR.out.row fun k hk=>hu.block k (HR.out.row.lt k hk).2 (by simp)
   obtain ⟨fa,fc,hv,_⟩:=row_nil_len hrow;have HV:=Lib.hid hv;subst hv;have HROW:=Lib.hid (hrow.alloc (.cells #[.int .i64 p1.var,.int .u32 p1.lo,.int .u32 p1.hi] 116 (0,0)));have hsz:w.heap.size<=w1.heap.size:=(HR.out.up.trans hu).size
   have HC2:Hid (∀ u,u∈p1.node->u.oneCell'=true):=by intro u hu;simp [PlaceV.node] at hu;rcases hu with rfl | rfl | rfl <;> rfl
   have hbs:w.heap.size<=((w1.alloc (.cells #[.int .i64 p1.var,.int .u32 p1.lo,.int .u32 p1.hi] 116 (0,0))).alloc (.cells #[.int .i64 p1.var,.int .u32 p1.lo,.int .u32 p1.hi] 116 (0,0))).heap.size:=by rw [World.size_alloc,World.size_alloc];omega
   clear hu hbx hrow
   go_wp2_with (at_builtin;go_must (refine wpList_append_lies _ rfl (.tmp 23) (.tmp 25) 282 rfl w.heap.size 116 i _ 3 16 Tryz.underlying282 HI.out HZ.out HZ1.out HZ2.out (by rfl) (by decide) _ 1 (flatNodes [p0]) rfl (HROW.out.alloc _) ⟨w1.heap.size+1,0,none⟩ 1 1 p1.node rfl rfl ?c1 HC2.out (by omega) (by unfold maxLen;omega) (by omega) hbs _ rfl ?_))
   case c1 =>
    have e:=heap_alloc_new (w1.alloc (.cells #[.int .i64 p1.var,.int .u32 p1.lo,.int .u32 p1.hi] 116 (0,0))) (.cells #[.int .i64 p1.var,.int .u32 p1.lo,.int .u32 p1.hi] 116 (0,0));rw [World.size_alloc] at e;exact World.news_of_block e
   intro g5 cap w5 hown hgr hat hlt2
   have HE:Hid (NdR w (.slice (some ⟨g5,0,none⟩) 2 cap) ([p0]++[p1]) w5):=by
    refine ⟨?_,?_⟩
    ·rw [flatNodes_snoc];exact hown
    ·refine (((HR.out.up.trans HU.out).alloc _).alloc _).grown hgr fun k hk=>.inr ?_
     exact (HROW.out.lt k hk).1
   clear hown hgr hat hlt2;go_wp2_with fail
   go_roundg (1:Nat)
   case measure=>decide
   case rel=>exact .inr (.inr (.inl ⟨rfl,rfl,HE.out⟩))
  ·have HR:=Lib.hid hR
   have c0:wr.cell? ⟨wb,0,none⟩=some (.pointer (some ⟨b,0,none⟩)):=cell_at (HN0.out _ hR.up).wk.blk rfl;clear hR;go_wp2_with fail;refine (nodeof_yes b f2 K T q p2 _ (HN0.out _ HR.out.up).ker.mem H2.out.2.2 H2.out.1 H2.out.2.1).mono ?_;rintro e w1 ⟨rfl,hu⟩;have hbx:=heap_alloc_new w1 (.cells #[.int .i64 p2.var,.int .u32 p2.lo,.int .u32 p2.hi] 116 (0,0));have b0:(w1.alloc (.cells #[.int .i64 p2.var,.int .u32 p2.lo,.int .u32 p2.hi] 116 (0,0))).cell? ⟨w1.heap.size,0,none⟩=some (.int .i64 p2.var):=cell_at hbx rfl;have b1:(w1.alloc (.cells #[.int .i64 p2.var,.int .u32 p2.lo,.int .u32 p2.hi] 116 (0,0))).cell? ⟨w1.heap.size,1,none⟩=some (.int .u32 p2.lo):=cell_at hbx rfl;have b2:(w1.alloc (.cells #[.int .i64 p2.var,.int .u32 p2.lo,.int .u32 p2.hi] 116 (0,0))).cell? ⟨w1.heap.size,2,none⟩=some (.int .u32 p2.hi):=cell_at hbx rfl;have HU:=Lib.hid hu
   have hrow:=row_keep HR.out.row fun k hk=>hu.block k (HR.out.row.lt k hk).2 (by simp)
   obtain ⟨fa,fc,hv,_⟩:=row_nil_len hrow;have HV:=Lib.hid hv;subst hv;have HROW:=Lib.hid (hrow.alloc (.cells #[.int .i64 p2.var,.int .u32 p2.lo,.int .u32 p2.hi] 116 (0,0)));have hsz:w.heap.size<=w1.heap.size:=(HR.out.up.trans hu).size
   have HC2:Hid (∀ u,u∈p2.node->u.oneCell'=true):=by intro u hu;simp [PlaceV.node] at hu;rcases hu with rfl | rfl | rfl <;> rfl
   have hbs:w.heap.size<=((w1.alloc (.cells #[.int .i64 p2.var,.int .u32 p2.lo,.int .u32 p2.hi] 116 (0,0))).alloc (.cells #[.int .i64 p2.var,.int .u32 p2.lo,.int .u32 p2.hi] 116 (0,0))).heap.size:=by rw [World.size_alloc,World.size_alloc];omega
   clear hu hbx hrow
   go_wp2_with (at_builtin;go_must (refine wpList_append_lies _ rfl (.tmp 23) (.tmp 25) 282 rfl w.heap.size 116 i _ 3 16 Tryz.underlying282 HI.out HZ.out HZ1.out HZ2.out (by rfl) (by decide) _ 2 (flatNodes [p0,p1]) rfl (HROW.out.alloc _) ⟨w1.heap.size+1,0,none⟩ 1 1 p2.node rfl rfl ?c1 HC2.out (by omega) (by unfold maxLen;omega) (by omega) hbs _ rfl ?_))
   case c1 =>
    have e:=heap_alloc_new (w1.alloc (.cells #[.int .i64 p2.var,.int .u32 p2.lo,.int .u32 p2.hi] 116 (0,0))) (.cells #[.int .i64 p2.var,.int .u32 p2.lo,.int .u32 p2.hi] 116 (0,0));rw [World.size_alloc] at e;exact World.news_of_block e
   intro g5 cap w5 hown hgr hat hlt2
   have HE:Hid (NdR w (.slice (some ⟨g5,0,none⟩) 3 cap) ([p0,p1]++[p2]) w5):=by
    refine ⟨?_,?_⟩
    ·rw [flatNodes_snoc];exact hown
    ·refine (((HR.out.up.trans HU.out).alloc _).alloc _).grown hgr fun k hk=>.inr ?_
     exact (HROW.out.lt k hk).1
   clear hown hgr hat hlt2;go_wp2_with fail
   go_roundg (0:Nat)
   case measure=>decide
   case rel=>exact .inr (.inr (.inr (⟨rfl,rfl,HE.out⟩)))
  ·have HR:=Lib.hid hR
   clear hR;go_wp2_with fail;go_ret;exact ⟨_,rfl,HR.out⟩
theorem flatNodes_get:∀ (l:List PlaceV) (r j:Nat),j<3->(flatNodes l)[r*3+j]?=(l[r]?).bind (fun p=>p.node[j]?)
 | [],r,j,_=>by simp [flatNodes]
 | p::l,0,j,hj=>by
  have e:flatNodes (p::l)=p.node++flatNodes l:=rfl
  rw [e,List.getElem?_append_left (by simp [PlaceV.node];omega)];simp
 | p::l,r+1,j,hj=>by
  have e:flatNodes (p::l)=p.node++flatNodes l:=rfl;rw [e,List.getElem?_append_right (by simp [PlaceV.node];omega),show (r+1)*3+j-p.node.length=r*3+j by simp [PlaceV.node];omega,flatNodes_get l r j hj];simp
def topF (K:KV) (v:Int) (p:PlaceV):Int:=if 0<=p.var/\(v<0\/K.lev p.var.toNat<K.lev v.toNat) then p.var else v
def KV.top (K:KV) (l:List PlaceV):Int:=l.foldl (topF K) (-1)
def KV.orVar (K:KV) (v:Int):Prop:=v=-1\/∃ n:Nat,v=(n:Int)/\n<K.vars
theorem top_snoc (K:KV) (l:List PlaceV) (p:PlaceV):K.top (l++[p])=topF K (K.top l) p:=by simp [KV.top]
theorem top_or {K:KV} {l:List PlaceV} (h:∀ p,p∈l->K.orVar p.var):K.orVar (K.top l):=by
 have key:∀ (l:List PlaceV) (v:Int),K.orVar v->(∀ p,p∈l->K.orVar p.var)->K.orVar (l.foldl (topF K) v):=by
  intro l
  induction l with
  | nil=>intro v hv _;exact hv
  | cons p l ih =>
   intro v hv h
   refine ih _ ?_ fun p hp=>h p (List.mem_cons_of_mem _ hp)
   unfold topF;split
   ·exact h p (by simp)
   ·exact hv
 exact key l (-1) (.inl rfl) h
theorem WK.levRow {w:World} {wb b:Nat} {K:KV} {T:List DM} {q:KPtr} {M:List Nat} {lvv mv:Value} (h:WK w wb b K T q M lvv mv) :
  ∃ g c,lvv=.slice (some ⟨g,0,none⟩) K.level.length c/\w.cell? ⟨wb,1,none⟩=some (.slice (some ⟨g,0,none⟩) K.level.length c)/\∀ n,n<K.vars->w.cell? ⟨g,n,none⟩=some (.int .i64 (K.lev n)):=by
 have hll:=h.ker.ok.ord.pm.ll;have hvs:=h.ker.ok.wf.vs;obtain ⟨g,c,hq,_,_⟩:=h.wk.ls.form (by omega);refine ⟨g,c,hq,by rw [<- hq];exact cell_at h.wk.blk rfl,fun n hn=>?_⟩;have:=h.wk.ls;rw [hq] at this;exact row_cell this (by simp [flatN,KV.lev,show n<K.level.length by omega])
theorem wtop_spec (wb b:Nat) (K:KV) (T:List DM) (q:KPtr) (M:List Nat) (lvv mv v:Value) (base:Nat) (ps:List PlaceV) (w:World) (h:WK w wb b K T q M lvv mv) (hrow:w.ownsRow base 116 3 v ps.length (flatNodes ps)) (hp:∀ p,p∈ps->K.orVar p.var) (hl:ps.length<=1000) :
  Calls Tryz.prog 214 #[.pointer (some ⟨wb,0,none⟩),v] w fun e w'=>e=.returned (.int .i64 (K.top ps))/\Upd [] w w':=by
 obtain ⟨fa,fc,rfl,_⟩:=row_nil_len hrow;have HROW:=Lib.hid hrow;have HP:=Lib.hid hp;have HW:=Lib.hid h;have hvs:=h.ker.ok.wf.vs;have hll:=h.ker.ok.ord.pm.ll;clear h hrow hp
 go_enter Tryz.func214,Tryz.ntmps214
 go_wp2_with fail
 go_loopg [5,10] ps.length (fun g s5 s10 wr=>∃ i:Nat,ps.length-i=g/\i<=ps.length/\s10=.int .i64 i/\s5=.int .i64 (K.top (ps.take i))/\Upd [] w wr)
 case atStart =>
  exact ⟨0,by omega,by omega,rfl,rfl,Upd.refl _ _⟩
 case round =>
  obtain ⟨i,rfl,hi,rfl,rfl,hU⟩:=hrel
  by_cases hlt:i<ps.length
  ·obtain ⟨p,hpi⟩ : ∃ p,ps[i]?=some p:=⟨_,List.getElem?_eq_getElem hlt⟩
   have hpm:=List.mem_of_getElem? hpi;obtain ⟨gr,rfl⟩:=row_some HROW.out (by omega)
   have hr:=row_keep HROW.out fun k hk=>hU.block k (HROW.out.lt k hk).2 (by simp)
   have d0:wr.cell? ⟨gr,i*3,none⟩=some (.int .i64 p.var):=row_cell hr (by have:=flatNodes_get ps i 0 (by omega);rw [Nat.add_zero] at this;rw [this,hpi];rfl);have d1:wr.cell? ⟨gr,i*3+1,none⟩=some (.int .u32 p.lo):=row_cell hr (by rw [flatNodes_get ps i 1 (by omega),hpi];rfl);have d2:wr.cell? ⟨gr,i*3+2,none⟩=some (.int .u32 p.hi):=row_cell hr (by rw [flatNodes_get ps i 2 (by omega),hpi];rfl)
   have hil:(i:Int)<(ps.length:Int):=by omega
   have HT:Hid (K.top (ps.take (i+1))=topF K (K.top (ps.take i)) p):=by
    show K.top (ps.take (i+1))=_
    rw [List.take_add_one,hpi];exact top_snoc K _ p
   have hvo:=top_or (K:=K) (l:=ps.take i) (fun p hp=>HP.out p (List.mem_of_mem_take hp));have hpo:=HP.out p hpm;have HU:=Lib.hid hU;clear hU hr hpi hpm;generalize K.top (ps.take i)=v at hvo HT
   have hloc:∀ X,wr.heap.size<(wr.alloc X).heap.size:=fun X=>by rw [World.size_alloc];omega
   have HK:Hid (∀ X,WK (wr.alloc X) wb b K T q M lvv mv):=fun X=>HW.out.upd (HU.out.alloc X) (by simp)
   rcases hpo with hpv | ⟨n,hpv,hn⟩
   ·have HT2:Hid (topF K v p=v):=by
     show topF K v p=v
     unfold topF;rw [if_neg (by rw [hpv];omega)]
    rw [hpv] at d0;have hbx:=heap_alloc_new wr (.cells #[.int .i64 (-1),.int .u32 p.lo,.int .u32 p.hi] 116 (0,0));have b0:(wr.alloc (.cells #[.int .i64 (-1),.int .u32 p.lo,.int .u32 p.hi] 116 (0,0))).cell? ⟨wr.heap.size,0,none⟩=some (.int .i64 (-1)):=cell_at hbx rfl;clear hpv hbx hvo;go_wp2_with fail
    go_quiet (fail)
    go_wp2_with fail
    go_roundg (ps.length-(i+1))
    case measure=>omega
    case rel=>exact ⟨i+1,rfl,by omega,by simp,by rw [HT.out,HT2.out],(HU.out.alloc _).drewN _⟩
   ·rw [hpv] at d0
    have hbx:=heap_alloc_new wr (.cells #[.int .i64 (n:Int),.int .u32 p.lo,.int .u32 p.hi] 116 (0,0));have b0:(wr.alloc (.cells #[.int .i64 (n:Int),.int .u32 p.lo,.int .u32 p.hi] 116 (0,0))).cell? ⟨wr.heap.size,0,none⟩=some (.int .i64 n):=cell_at hbx rfl;obtain ⟨gl,cl,_,c1,clv⟩:=(HK.out (.cells #[.int .i64 (n:Int),.int .u32 p.lo,.int .u32 p.hi] 116 (0,0))).levRow;have cn:=clv n hn
    have hnl:(n:Int)<(K.level.length:Int):=by omega
    have hls:K.level.length<=64:=by omega
    have HPV:=Lib.hid hpv;clear hpv hbx
    rcases hvo with rfl | ⟨m,rfl,hm⟩
    ·have HT2:Hid (topF K (-1) p=(n:Int)):=by
      show topF K (-1) p=n
      unfold topF;rw [if_pos ⟨by rw [HPV.out];omega,.inl (by omega)⟩];exact HPV.out
     clear clv;go_wp2_with fail
     go_quiet (fail)
     go_wp2_with fail
     go_roundg (ps.length-(i+1))
     case measure=>omega
     case rel=>exact ⟨i+1,rfl,by omega,by simp,by rw [HT.out,HT2.out],(HU.out.alloc _).drewN _⟩
    ·have cm:=clv m hm
     have hml:(m:Int)<(K.level.length:Int):=by omega
     clear clv
     by_cases hlv:K.lev n<K.lev m
     ·have HT2:Hid (topF K (m:Int) p=(n:Int)):=by
       show topF K (m:Int) p=n
       unfold topF;rw [HPV.out,if_pos ⟨by omega,.inr (by simpa using hlv)⟩]
      have hd1:decide ((K.lev n:Int)<(K.lev m:Int))=true:=by simp;omega
      have hd2:decide (K.lev n<K.lev m)=true:=by simp;omega
      go_wp2_with fail
      go_quiet (fail)
      go_wp2_with fail
      go_roundg (ps.length-(i+1))
      case measure=>omega
      case rel=>exact ⟨i+1,rfl,by omega,by simp,by rw [HT.out,HT2.out],(HU.out.alloc _).drewN _⟩
     ·have HT2:Hid (topF K (m:Int) p=(m:Int)):=by
       show topF K (m:Int) p=m
       unfold topF;rw [HPV.out,if_neg (fun ⟨_,h⟩=>h.elim (fun h=>by omega) (fun h=>hlv (by simpa using h)))]
      have hd1:decide ((K.lev n:Int)<(K.lev m:Int))=false:=by simp;omega
      have hd2:decide (K.lev n<K.lev m)=false:=by simp;omega
      have hd3:¬ ((K.lev n:Int)<(K.lev m:Int)):=by omega
      go_wp2_with fail
      go_quiet (fail)
      go_wp2_with fail
      go_roundg (ps.length-(i+1))
      case measure=>omega
      case rel=>exact ⟨i+1,rfl,by omega,by simp,by rw [HT.out,HT2.out],(HU.out.alloc _).drewN _⟩
  ·obtain rfl:i=ps.length:=by omega
   rw [List.take_length];have HU:=Lib.hid hU;clear hU;go_wp2_with fail;go_ret;exact ⟨rfl,HU.out⟩
end Go.Proofs.YtfkopmhpppeheaaGreat
