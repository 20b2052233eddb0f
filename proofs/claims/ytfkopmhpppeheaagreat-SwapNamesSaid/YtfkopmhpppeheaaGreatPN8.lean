import Derived.Test.YtfkopmhpppeheaaGreatPN7
set_option maxRecDepth 100000
set_option maxHeartbeats 3200000
namespace Go.Proofs.YtfkopmhpppeheaaGreat
open Go.RowKit Go.Maps Go.ChangeMaps Go.WideShapes
structure zq (K0 K:KV) (M:List Nat) (r:Nat) (ok:Bool) (i:Nat) (K':KV):Prop where
 ext:K'.Ext K
 hd:∀ x,K'.hold x=K0.hold x+(M.drop i).count x+(if x=r/\ok=true/\r∈M.take i then 1 else 0)
 tr:M≠[]->K'.trail=[]
 st:M=[]->K'=K
theorem zq.start {K0 K:KV} {M:List Nat} {r:Nat} {ok:Bool} (hh:∀ x,K.hold x=K0.hold x+M.count x) (ht:M≠[]->K.trail=[]):zq K0 K M r ok 0 K :=
 ⟨.refl K,fun x=>by rw [hh];simp,ht,fun _=>rfl⟩
theorem lL {M:List Nat} {i f r:Nat} (hf:M[i]?=some f):r∈M.take (i+1)↔r∈M.take i\/r=f:=by
 rw [List.take_add_one,hf];simp
theorem wJ {M:List Nat} {i f x:Nat} (hf:M[i]?=some f):(M.drop i).count x=(M.drop (i+1)).count x+(if f=x then 1 else 0):=by
 obtain ⟨h1,h2⟩:=List.getElem?_eq_some_iff.1 hf;rw [List.drop_eq_getElem_cons h1,List.count_cons,h2];simp
theorem zq.keep {K0 K K':KV} {M:List Nat} {r i:Nat} (h:zq K0 K M r true i K') (hf:M[i]?=some r) (hn:r∉M.take i):zq K0 K M r true (i+1) K':=by
 refine ⟨h.ext,fun x=>?_,h.tr,h.st⟩;rw [h.hd,wJ hf]
 simp only [lL hf,hn,and_false,if_false,or_true,and_true]
 by_cases e:x=r
 ·subst e;simp;omega
 ·simp [e,Ne.symm e]
theorem zq.drop {K0 K K' K2:KV} {M:List Nat} {r i f:Nat} {ok:Bool} (h:zq K0 K M r ok i K') (hf:M[i]?=some f) (hn:f=r->ok=true->r∈M.take i) (hd:K'.Dropped f K2) (h2:2<=f):zq K0 K M r ok (i+1) K2:=by
 refine ⟨hd.ext.trans h.ext,fun x=>?_,fun _=>hd.tr,fun e=>by subst e;simp at hf⟩;rw [hd.hd,h.hd,wJ hf]
 have e1:(x=r/\ok=true/\r∈M.take (i+1))↔(x=r/\ok=true/\r∈M.take i):=by
  rw [lL hf];constructor
  ·rintro ⟨a,b,c | c⟩
   ·exact ⟨a,b,c⟩
   ·exact ⟨a,b,hn c.symm b⟩
  ·rintro ⟨a,b,c⟩;exact ⟨a,b,.inl c⟩
 simp only [e1]
 by_cases e:x=f
 ·subst e;simp [h2];omega
 ·simp [e,Ne.symm e]
theorem zq.pos {K0 K K':KV} {M:List Nat} {r i f:Nat} {ok:Bool} (h:zq K0 K M r ok i K') (hf:M[i]?=some f):0<K'.hold f:=by
 rw [h.hd,wJ hf];simp;omega
def dM (M:List Nat) (r:Nat) (code:Int):Nat × Int:=if code≠0 then (0,code) else if r<2\/r∈M then (r,0) else (0,8)
structure uY (w0:World) (wb b r:Nat) (K0 K:KV) (q0:aA) (M:List Nat) (lvv mv:Value) (ok:Bool) (i:Nat) (w:World):Prop where
 ex:∃ K' T' q',WK w wb b K' T' q' M lvv mv/\zq K0 K M r ok i K'/\af (kN wb b q0 lvv mv) w0 w/\Sub (q0.all b) w0 (q'.all b)
theorem uY.drop {w0 w:World} {wb b r i f:Nat} {K0 K:KV} {q0:aA} {M:List Nat} {lvv mv:Value} {ok:Bool} (h:uY w0 wb b r K0 K q0 M lvv mv ok i w) (hf:M[i]?=some f) (hn:f=r->ok=true->r∈M.take i) (rY:f<=4294967295) :
  Calls Tryz.prog 34 #[.pointer (some ⟨b,0,none⟩),.int .u32 f] w fun e w'=>e=.returned (.int .i64 0)/\uY w0 wb b r K0 K q0 M lvv mv ok (i+1) w':=by
 obtain ⟨K',T',q',hw,hs,hu,mr⟩:=h.ex;have hp:=hs.pos hf;refine (FW b f K' T' q' w hw.ker rY).mono ?_;rintro e w' ⟨code,K2,T2,q2,rfl,hc,hk,jE,dR⟩
 rcases hc with ⟨_,_,h0,_⟩ | ⟨rfl,_,hd⟩
 ·omega
 ·have gV:=hw.kernel hk hd.ext.lv.symm jE dR
  have dG:=hu.size;refine ⟨rfl,K2,T2,q2,gV,hs.drop hf hn hd (hw.ker.ok.wf.ht f hp).1,hu.then jE fun x hx=>?_,fun k hk=>?_⟩
  ·rcases mr x hx with h | h
   ·exact .inl (List.mem_append.2 (.inl h))
   ·exact .inr h
  ·rcases dR k hk with h | h
   ·exact mr k h
   ·right;omega
theorem uY.keep {w0 w:World} {wb b r i:Nat} {K0 K:KV} {q0:aA} {M:List Nat} {lvv mv:Value} (h:uY w0 wb b r K0 K q0 M lvv mv true i w) (hf:M[i]?=some r) (hn:r∉M.take i):uY w0 wb b r K0 K q0 M lvv mv true (i+1) w:=by
 obtain ⟨K',T',q',hw,hs,hu,mr⟩:=h.ex;exact ⟨K',T',q',hw,hs.keep hf hn,hu,mr⟩
theorem uY.cells {w0 w:World} {wb b r i g n c:Nat} {K0 K:KV} {q0:aA} {M:List Nat} {lvv mv:Value} {ok:Bool} (h:uY w0 wb b r K0 K q0 M lvv mv ok i w) (FZ:mv=.slice (some ⟨g,0,none⟩) n c) :
  w.cell? ⟨wb,0,none⟩=some (.pointer (some ⟨b,0,none⟩))/\∀ (j f:Nat),M[j]?=some f->w.cell? ⟨g,j,none⟩=some (.int .u32 f):=by
 obtain ⟨K',T',q',hw,hs,hu,mr⟩:=h.ex;refine ⟨ae hw.wk.blk rfl,fun j f hf=>?_⟩;have:=hw.wk.ms;rw [FZ] at this;exact au this (by simp [aI,hf])
theorem uY.done {w0 w:World} {wb b r:Nat} {K0 K:KV} {q0:aA} {M:List Nat} {lvv mv:Value} {ok:Bool} (h:uY w0 wb b r K0 K q0 M lvv mv ok M.length w) :
  w.cell? ⟨wb,2,none⟩=some mv/\w.frozen? ⟨wb,2,none⟩=false/\(w.setCell ⟨wb,2,none⟩ (.slice none 0 0)).cell? ⟨wb,0,none⟩=some (.pointer (some ⟨b,0,none⟩)) /\
  ∃ K' T' q',bV (w.setCell ⟨wb,2,none⟩ (.slice none 0 0)) b K' T' q'/\af (kN wb b q0 lvv mv) w0 (w.setCell ⟨wb,2,none⟩ (.slice none 0 0))/\Sub (q0.all b) w0 (q'.all b)/\K'.Ext K /\
   (∀ x,K'.hold x=K0.hold x+(if x=r/\ok=true/\r∈M then 1 else 0))/\(M≠[]->K'.trail=[])/\(M=[]->K'=K):=by
 obtain ⟨K',T',q',hw,hs,hu,mr⟩:=h.ex;have hwm:wb∈kN wb b q0 lvv mv:=List.mem_append.2 (.inr (di.2 (.inl rfl)));have qM:=hw.wk.blk;refine ⟨ae qM rfl,ax 2 qM,?_,K',T',q',?_,hu.setCell (p:=⟨wb,2,none⟩) (.inl hwm) _,mr,hs.ext,fun x=>?_,hs.tr,hs.st⟩
 ·have e:=aB (j:=2) qM (.slice none 0 0)
  exact ae e rfl
 ·exact hw.ker.upd ((af.refl [wb] w).setCell (p:=⟨wb,2,none⟩) (.inl (by simp)) _) fun k hk hm=>by
   simp at hm
   exact hw.dj k hk (di.2 (.inl hm))
 ·rw [hs.hd];simp
structure GU (wb b r:Nat) (code:Int) (K0 K:KV) (q:aA) (M:List Nat) (lvv mv:Value) (w w':World):Prop where
 ex : ∃ (K' : KV) (T' : List DM) (q' : aA), bV w' b K' T' q' /\ af (kN wb b q lvv mv) w w' /\ Sub (q.all b) w (q'.all b) /\ K'.Ext K /\
    (∀ x,K'.hold x=K0.hold x+(if x=r/\decide (2<=r/\code=0)=true/\r∈M then 1 else 0))/\(M≠[]->K'.trail=[])/\(code=0->r<2->K'.trail=[])/\(M=[]->¬ (code=0/\r<2)->K'=K)
theorem RZ (wb b r:Nat) (code:Int) (K0 K:KV) (T:List DM) (q:aA) (M:List Nat) (lvv mv:Value) (w:World) (h:WK w wb b K T q M lvv mv) (hM:M.length<=1099511627776) (hr:r<=4294967295) (BF:∀ x,x∈M->x<=4294967295)
  (hh:∀ x,K.hold x=K0.hold x+M.count x) (qG:M≠[]->K.trail=[]) (h2:2<=r) :
  Calls Tryz.prog 211 #[.pointer (some ⟨wb,0,none⟩),.int .u32 r,.int .i64 code] w fun e w' =>
   e=.returned (.tuple #[.int .u32 (dM M r code).1,.int .i64 (dM M r code).2])/\GU wb b r code K0 K q M lvv mv w w':=by
 have HS:Hid (uY w wb b r K0 K q M lvv mv (decide (2<=r/\code=0)) 0 w):=⟨K,T,q,h,zq.start hh qG,af.refl _ _,Sub.refl _ _⟩;have ZK:=Lib.hid BF;obtain ⟨fa,fc,FZ,_⟩:=aj h.wk.ms
 have c2:w.cell? ⟨wb,2,none⟩=some (.slice fa M.length fc):=by rw [<- FZ];exact ae h.wk.blk rfl
 have aC:=h.wk.ms;rw [FZ] at aC;have bF:=Lib.hid (fun hn=>bC aC hn);have HMV:=Lib.hid FZ
 have wM:((r:Int) == 0)=false:=by simp;omega
 have Ag:((r:Int) == 1)=false:=by simp;omega
 have fU:¬ (r=0):=by omega
 have SN:¬ (r=1):=by omega
 have hml:M.length<=9223372036854775806:=by omega
 clear h hh qG FZ aC BF
 go_enter Tryz.func211,Tryz.ntmps211
 go_wp2_with fail
 go_loopg [8,22] M.length (fun g s8 s22 wr=>∃ i:Nat,M.length-i=g/\i<=M.length/\s22=.int .i64 i/\s8=.bool (decide (2<=r/\code=0)&&decide (r∈M.take i))/\uY w wb b r K0 K q M lvv mv (decide (2<=r/\code=0)) i wr)
 case atStart =>
  exact ⟨0,by omega,by omega,rfl,by simp,HS.out⟩
 case round =>
  obtain ⟨i,rfl,hi,rfl,rfl,hE⟩:=hrel
  by_cases aW:i<M.length
  ·obtain ⟨f,hf⟩ : ∃ f,M[i]?=some f:=⟨_,List.getElem?_eq_getElem aW⟩
   obtain ⟨g,rfl⟩:=bF.out (by omega);obtain ⟨c0,EC⟩:=hE.cells HMV.out;have cf:=EC i f hf
   have fF:(i:Int)<(M.length:Int):=by omega
   have Es:f<=4294967295:=ZK.out f (List.mem_of_getElem? hf);have HF:=Lib.hid hf;have HE:=Lib.hid hE;clear hE EC hf
   have HKK:Hid ((f=r->decide (2<=r/\code=0)=true->r∈M.take i)->(decide (2<=r/\code=0)&&decide (r∈M.take (i+1)))=(decide (2<=r/\code=0)&&decide (r∈M.take i))):=by
    intro hn
    cases dJ:decide (2<=r/\code=0) with
    | false=>rfl
    | true =>
     have e:(r∈M.take (i+1))↔(r∈M.take i):=by
      rw [lL HF.out];constructor
      ·rintro (h | h)
       ·exact h
       ·exact hn h.symm dJ
      ·exact .inl
     simp [e]
   by_cases I5:f=r
   ·cases hk:(decide (2<=r/\code=0)&&decide (r∈M.take i)) with
    | true =>
     have HN:Hid (f=r->decide (2<=r/\code=0)=true->r∈M.take i):=by
      intro _ _;simp at hk;exact hk.2
     have HK:=Lib.hid (HKK.out HN.out);rw [hk] at HK
     have hfe:((f:Int) == (r:Int))=true:=by simp [I5]
     clear I5;go_wp2_with fail;refine (HE.out.drop HF.out HN.out Es).mono ?_;rintro e w1 ⟨rfl,zW⟩;have Ir:=Lib.hid zW;clear zW;go_wp2_with fail
     go_roundg (M.length-(i+1))
     case measure=>omega
     case rel=>exact ⟨i+1,rfl,by omega,by simp,by rw [HK.out],Ir.out⟩
    | false =>
     by_cases hc:code=0
     ·subst I5
      have dJ:decide (2<=f/\code=0)=true:=by simp [h2,hc]
      have HNI:Hid (f∉M.take i):=by
       intro hm
       rw [dJ] at hk;simp at hk
       exact hk hm
      have Ir:Hid (uY w wb b f K0 K q M lvv mv (decide (2<=f/\code=0)) (i+1) wr):=by
       have:=HE.out;rw [dJ] at this ⊢;exact this.keep HF.out HNI.out
      have HK:Hid ((decide (2<=f/\code=0)&&decide (f∈M.take (i+1)))=true):=by
       show _=true
       rw [dJ];simp [lL HF.out]
      have YS:=Lib.hid hc;subst hc;clear dJ HKK;go_wp2_with fail
      go_roundg (M.length-(i+1))
      case measure=>omega
      case rel=>exact ⟨i+1,rfl,by omega,by simp,by rw [HK.out],Ir.out⟩
     ·have HN:Hid (f=r->decide (2<=r/\code=0)=true->r∈M.take i):=by
       intro _ h;simp at h;exact absurd h.2 hc
      have HK:=Lib.hid (HKK.out HN.out);rw [hk] at HK
      have hfe:((f:Int) == (r:Int))=true:=by simp [I5]
      have ZV:(code == 0)=false:=by simpa using hc
      clear I5;go_wp2_with fail;refine (HE.out.drop HF.out HN.out Es).mono ?_;rintro e w1 ⟨rfl,zW⟩;have Ir:=Lib.hid zW;clear zW;go_wp2_with fail
      go_roundg (M.length-(i+1))
      case measure=>omega
      case rel=>exact ⟨i+1,rfl,by omega,by simp,by rw [HK.out],Ir.out⟩
   ·have HN:Hid (f=r->decide (2<=r/\code=0)=true->r∈M.take i):=fun h=>absurd h I5
    have HK:=Lib.hid (HKK.out HN.out)
    have hfe:((f:Int) == (r:Int))=false:=by simp;omega
    have ahQ:¬ ((f:Int)=(r:Int)):=by omega
    generalize (decide (2<=r/\code=0)&&decide (r∈M.take i))=kb at HK;go_wp2_with fail;refine (HE.out.drop HF.out HN.out Es).mono ?_;rintro e w1 ⟨rfl,zW⟩;have Ir:=Lib.hid zW;clear zW;go_wp2_with fail
    go_roundg (M.length-(i+1))
    case measure=>omega
    case rel=>exact ⟨i+1,rfl,by omega,by simp,by rw [HK.out],Ir.out⟩
  ·obtain rfl:i=M.length:=by omega
   obtain ⟨e2,f2,e0,abt⟩:=hE.done
   have HD:Hid (GU wb b r code K0 K q M lvv mv w (wr.setCell ⟨wb,2,none⟩ (.slice none 0 0))):=by
    obtain ⟨K',T',q',a1,a2,a3,a4,a5,a6,a7⟩:=abt;exact ⟨K',T',q',a1,a2,a3,a4,a5,a6,fun _ h=>by omega,fun h _=>a7 h⟩
   have fF:¬ ((M.length:Int)<(M.length:Int)):=by omega
   rw [List.take_length];clear hE abt
   by_cases hc:code=0
   ·by_cases hm:r∈M
    ·have hk:(decide (2<=r/\code=0)&&decide (r∈M))=true:=by simp [h2,hc,hm]
     have HR:Hid (dM M r code=(r,0)):=by
      show dM M r code=(r,0)
      unfold dM;rw [if_neg (by simp [hc]),if_pos (.inr hm)]
     rw [hk];clear hk;subst hc;go_wp2_with fail;go_ret2;exact ⟨by rw [HR.out];rfl,HD.out⟩
    ·have hk:(decide (2<=r/\code=0)&&decide (r∈M))=false:=by simp [hm]
     have HR:Hid (dM M r code=(0,8)):=by
      show dM M r code=(0,8)
      unfold dM;rw [if_neg (by simp [hc]),if_neg (by simp [hm];omega)]
     rw [hk];clear hk;subst hc;go_wp2_with fail;go_ret2;exact ⟨by rw [HR.out];rfl,HD.out⟩
   ·have ZV:(code != 0)=true:=by simpa using hc
    have HR:Hid (dM M r code=(0,code)):=by
     show dM M r code=(0,code)
     unfold dM;rw [if_pos hc]
    go_wp2_with fail;go_ret2;exact ⟨by rw [HR.out];rfl,HD.out⟩
theorem KV.Ok.gX {K:KV} (h:K.Ok) {r:Nat} (h2:r<2):K.A.tk r=true:=by
 obtain rfl | rfl:r=0\/r=1:=by omega
 ·exact h.wf.ok.oq.1
 ·exact h.wf.ok.oq.2
theorem KV.Ext.ahR {K K':KV} (he:K'.Ext K) (r:Nat):(K'.bW r).Ext K:=by
 refine ⟨fun s p h1 h3=>?_,?_,?_,?_,?_⟩
 ·rw [K'.dO] at h1;exact he.nd s p h1 h3
 ·rw [K'.dO];exact he.pl
 ·rw [K'.iO];exact he.vr
 ·rw [K'.lY];exact he.od
 ·rw [K'.jP];exact he.lv
theorem GN {w w1 w2:World} {wb b r:Nat} {K0 K:KV} {q:aA} {M:List Nat} {lvv mv:Value} (h2:r<2) {K' K2:KV} {T' T2:List DM} {q' q2:aA} (hk:bV (w1.setCell ⟨wb,2,none⟩ (.slice none 0 0)) b K' T' q')
  (hu:af (kN wb b q lvv mv) w (w1.setCell ⟨wb,2,none⟩ (.slice none 0 0))) (hs:Sub (q.all b) w (q'.all b)) (he:K'.Ext K) (hd:∀ x,K'.hold x=K0.hold x+(if x=r/\false=true/\r∈M then 1 else 0))
  (yB:bV w2 b K2 T2 q2) (vU:K2=K'.bW r) (jE:af (q'.all b) (w1.setCell ⟨wb,2,none⟩ (.slice none 0 0)) w2) (dR:∀ k,k∈q2.all b->k∈q'.all b):GU wb b r 0 K0 K q M lvv mv w w2:=by
 have dG:=hu.size;have Yr:=hk.ok.wf.lG (hk.ok.gX h2);subst vU;refine ⟨_,T2,q2,yB,hu.then jE fun x hx=>?_,fun k hk=>hs k (dR k hk),he.ahR r,fun x=>?_,fun _=>K'.jQ r,fun _ _=>K'.jQ r,fun _ h=>absurd ⟨rfl,h2⟩ h⟩
 ·rcases hs x hx with h | h
  ·exact .inl (List.mem_append.2 (.inl h))
  ·exact .inr h
 ·have e:¬ (2<=r):=by omega
  rw [Yr,hd];simp [e]
theorem Oy (wb b r:Nat) (code:Int) (K0 K:KV) (T:List DM) (q:aA) (M:List Nat) (lvv mv:Value) (w:World) (h:WK w wb b K T q M lvv mv) (hM:M.length<=1099511627776) (BF:∀ x,x∈M->x<=4294967295)
  (hh:∀ x,K.hold x=K0.hold x+M.count x) (qG:M≠[]->K.trail=[]) (h2:r<2) :
  Calls Tryz.prog 211 #[.pointer (some ⟨wb,0,none⟩),.int .u32 r,.int .i64 code] w fun e w' =>
   e=.returned (.tuple #[.int .u32 (dM M r code).1,.int .i64 (dM M r code).2])/\GU wb b r code K0 K q M lvv mv w w':=by
 have HS:Hid (uY w wb b r K0 K q M lvv mv false 0 w):=⟨K,T,q,h,zq.start hh qG,af.refl _ _,Sub.refl _ _⟩;have ZK:=Lib.hid BF;obtain ⟨fa,fc,FZ,_⟩:=aj h.wk.ms
 have c2:w.cell? ⟨wb,2,none⟩=some (.slice fa M.length fc):=by rw [<- FZ];exact ae h.wk.blk rfl
 have aC:=h.wk.ms;rw [FZ] at aC;have bF:=Lib.hid (fun hn=>bC aC hn);have HMV:=Lib.hid FZ
 have hml:M.length<=9223372036854775806:=by omega
 have WS:r=0\/r=1:=by omega
 clear h hh qG FZ aC BF
 rcases WS with rfl | rfl
 ·go_enter Tryz.func211,Tryz.ntmps211
  go_wp2_with fail
  go_loopg [8,22] M.length (fun g s8 s22 wr=>∃ i:Nat,M.length-i=g/\i<=M.length/\s22=.int .i64 i/\s8=.bool true/\uY w wb b 0 K0 K q M lvv mv false i wr)
  case atStart =>
   exact ⟨0,by omega,by omega,rfl,rfl,HS.out⟩
  case round =>
   obtain ⟨i,rfl,hi,rfl,rfl,hE⟩:=hrel
   by_cases aW:i<M.length
   ·obtain ⟨f,hf⟩ : ∃ f,M[i]?=some f:=⟨_,List.getElem?_eq_getElem aW⟩
    obtain ⟨g,rfl⟩:=bF.out (by omega);obtain ⟨c0,EC⟩:=hE.cells HMV.out;have cf:=EC i f hf
    have fF:(i:Int)<(M.length:Int):=by omega
    have Es:f<=4294967295:=ZK.out f (List.mem_of_getElem? hf);have HF:=Lib.hid hf;have HE:=Lib.hid hE
    have HN:Hid (f=0->false=true->0∈M.take i):=fun _ h=>by cases h
    clear hE EC hf
    cases hfe:((f:Int) == 0) with
    | true =>
     go_wp2_with fail;refine (HE.out.drop HF.out HN.out Es).mono ?_;rintro e w1 ⟨rfl,zW⟩;have Ir:=Lib.hid zW;clear zW;go_wp2_with fail
     go_roundg (M.length-(i+1))
     case measure=>omega
     case rel=>exact ⟨i+1,rfl,by omega,by simp,rfl,Ir.out⟩
    | false =>
     have ahQ:¬ ((f:Int)=0):=by simpa using hfe
     go_wp2_with fail;refine (HE.out.drop HF.out HN.out Es).mono ?_;rintro e w1 ⟨rfl,zW⟩;have Ir:=Lib.hid zW;clear zW;go_wp2_with fail
     go_roundg (M.length-(i+1))
     case measure=>omega
     case rel=>exact ⟨i+1,rfl,by omega,by simp,rfl,Ir.out⟩
   ·obtain rfl:i=M.length:=by omega
    obtain ⟨e2,f2,e0,K',T',q',a1,a2,a3,a4,a5,a6,a7⟩:=hE.done;have HD:=Lib.hid (And.intro hE (And.intro a1 (And.intro a2 (And.intro a3 (And.intro a4 (And.intro a5 (And.intro a6 a7)))))))
    have fF:¬ ((M.length:Int)<(M.length:Int)):=by omega
    clear hE a1 a2 a3 a4 a5 a6 a7
    by_cases hc:code=0
    ·have HR:Hid (dM M 0 code=(0,0)):=by
      show dM M 0 code=(0,0)
      unfold dM;rw [if_neg (by simp [hc]),if_pos (.inl (by omega))]
     subst hc;go_wp2_with fail
     have CJ:K'.hold 0=0:=by
      by_cases h0:0<K'.hold 0
      ·have:=(HD.out.2.1.ok.wf.ht 0 h0).1;omega
      ·omega
     refine (yt b 0 K' T' q' _ HD.out.2.1 (by omega) HD.out.2.1.ok.wf.ok.oq.1).mono ?_;rintro e w1 ⟨Jk,K2,q2,rfl,hcd,hk,fG,xG⟩
     rcases hcd with ⟨_,hb,_⟩ | ⟨rfl,_,vU⟩
     ·omega
     ·have HE:=Lib.hid (GN (by omega) HD.out.2.1 HD.out.2.2.1 HD.out.2.2.2.1 HD.out.2.2.2.2.1 HD.out.2.2.2.2.2.1 hk vU fG xG)
      clear hk fG xG vU;go_wp2_with fail;go_ret2;exact ⟨by rw [HR.out];rfl,HE.out⟩
    ·have ZV:(code != 0)=true:=by simpa using hc
     have HR:Hid (dM M 0 code=(0,code)):=by
      show dM M 0 code=(0,code)
      unfold dM;rw [if_pos hc]
     have HE:Hid (GU wb b 0 code K0 K q M lvv mv w (wr.setCell ⟨wb,2,none⟩ (.slice none 0 0))):=by
      obtain ⟨_,b1,b2,b3,b4,b5,b6,b7⟩:=HD.out;refine ⟨K',T',q',b1,b2,b3,b4,fun x=>?_,b6,fun h=>absurd h hc,fun h _=>b7 h⟩
      rw [b5];simp
     clear HD;go_wp2_with fail;go_ret2;exact ⟨by rw [HR.out];rfl,HE.out⟩
 ·go_enter Tryz.func211,Tryz.ntmps211
  go_wp2_with fail
  go_loopg [8,22] M.length (fun g s8 s22 wr=>∃ i:Nat,M.length-i=g/\i<=M.length/\s22=.int .i64 i/\s8=.bool true/\uY w wb b 1 K0 K q M lvv mv false i wr)
  case atStart =>
   exact ⟨0,by omega,by omega,rfl,rfl,HS.out⟩
  case round =>
   obtain ⟨i,rfl,hi,rfl,rfl,hE⟩:=hrel
   by_cases aW:i<M.length
   ·obtain ⟨f,hf⟩ : ∃ f,M[i]?=some f:=⟨_,List.getElem?_eq_getElem aW⟩
    obtain ⟨g,rfl⟩:=bF.out (by omega);obtain ⟨c0,EC⟩:=hE.cells HMV.out;have cf:=EC i f hf
    have fF:(i:Int)<(M.length:Int):=by omega
    have Es:f<=4294967295:=ZK.out f (List.mem_of_getElem? hf);have HF:=Lib.hid hf;have HE:=Lib.hid hE
    have HN:Hid (f=1->false=true->1∈M.take i):=fun _ h=>by cases h
    clear hE EC hf
    cases hfe:((f:Int) == 1) with
    | true =>
     go_wp2_with fail;refine (HE.out.drop HF.out HN.out Es).mono ?_;rintro e w1 ⟨rfl,zW⟩;have Ir:=Lib.hid zW;clear zW;go_wp2_with fail
     go_roundg (M.length-(i+1))
     case measure=>omega
     case rel=>exact ⟨i+1,rfl,by omega,by simp,rfl,Ir.out⟩
    | false =>
     have ahQ:¬ ((f:Int)=1):=by simpa using hfe
     go_wp2_with fail;refine (HE.out.drop HF.out HN.out Es).mono ?_;rintro e w1 ⟨rfl,zW⟩;have Ir:=Lib.hid zW;clear zW;go_wp2_with fail
     go_roundg (M.length-(i+1))
     case measure=>omega
     case rel=>exact ⟨i+1,rfl,by omega,by simp,rfl,Ir.out⟩
   ·obtain rfl:i=M.length:=by omega
    obtain ⟨e2,f2,e0,K',T',q',a1,a2,a3,a4,a5,a6,a7⟩:=hE.done;have HD:=Lib.hid (And.intro hE (And.intro a1 (And.intro a2 (And.intro a3 (And.intro a4 (And.intro a5 (And.intro a6 a7)))))))
    have fF:¬ ((M.length:Int)<(M.length:Int)):=by omega
    clear hE a1 a2 a3 a4 a5 a6 a7
    by_cases hc:code=0
    ·have HR:Hid (dM M 1 code=(1,0)):=by
      show dM M 1 code=(1,0)
      unfold dM;rw [if_neg (by simp [hc]),if_pos (.inl (by omega))]
     subst hc;go_wp2_with fail
     have CJ:K'.hold 1=0:=by
      by_cases h0:0<K'.hold 1
      ·have:=(HD.out.2.1.ok.wf.ht 1 h0).1;omega
      ·omega
     refine (yt b 1 K' T' q' _ HD.out.2.1 (by omega) HD.out.2.1.ok.wf.ok.oq.2).mono ?_;rintro e w1 ⟨Jk,K2,q2,rfl,hcd,hk,fG,xG⟩
     rcases hcd with ⟨_,hb,_⟩ | ⟨rfl,_,vU⟩
     ·omega
     ·have HE:=Lib.hid (GN (by omega) HD.out.2.1 HD.out.2.2.1 HD.out.2.2.2.1 HD.out.2.2.2.2.1 HD.out.2.2.2.2.2.1 hk vU fG xG)
      clear hk fG xG vU;go_wp2_with fail;go_ret2;exact ⟨by rw [HR.out];rfl,HE.out⟩
    ·have ZV:(code != 0)=true:=by simpa using hc
     have HR:Hid (dM M 1 code=(0,code)):=by
      show dM M 1 code=(0,code)
      unfold dM;rw [if_pos hc]
     have HE:Hid (GU wb b 1 code K0 K q M lvv mv w (wr.setCell ⟨wb,2,none⟩ (.slice none 0 0))):=by
      obtain ⟨_,b1,b2,b3,b4,b5,b6,b7⟩:=HD.out;refine ⟨K',T',q',b1,b2,b3,b4,fun x=>?_,b6,fun h=>absurd h hc,fun h _=>b7 h⟩
      rw [b5];simp
     clear HD;go_wp2_with fail;go_ret2;exact ⟨by rw [HR.out];rfl,HE.out⟩
theorem P9 (wb b r:Nat) (code:Int) (K0 K:KV) (T:List DM) (q:aA) (M:List Nat) (lvv mv:Value) (w:World) (h:WK w wb b K T q M lvv mv) (hM:M.length<=1099511627776) (hr:r<=4294967295) (BF:∀ x,x∈M->x<=4294967295)
  (hh:∀ x,K.hold x=K0.hold x+M.count x) (qG:M≠[]->K.trail=[]) :
  Calls Tryz.prog 211 #[.pointer (some ⟨wb,0,none⟩),.int .u32 r,.int .i64 code] w fun e w' =>
   e=.returned (.tuple #[.int .u32 (dM M r code).1,.int .i64 (dM M r code).2])/\GU wb b r code K0 K q M lvv mv w w':=by
 by_cases h2:2<=r
 ·exact RZ wb b r code K0 K T q M lvv mv w h hM hr BF hh qG h2
 ·exact Oy wb b r code K0 K T q M lvv mv w h hM BF hh qG (by omega)
theorem Tryz.Xl:(Tryz.prog.info? 116).map (fun i=>(i.zero,i.size,i.bytes))=some (some (.agg #[.int .i64 0,.int .u32 0,.int .u32 0]),3,16):=by kernel_rfl
def ak.node (p:ak):List Value:=[.int .i64 p.var,.int .u32 p.lo,.int .u32 p.hi]
def eu (l:List ak):List Value:=l.flatMap ak.node
theorem nX (l:List ak) (p:ak):eu (l++[p])=eu l++p.node:=by simp [eu]
structure NdR (w:World) (v:Value) (l:List ak) (wr:World):Prop where
 row:wr.ownsRow w.heap.size 116 3 v l.length (eu l)
 up:af [] w wr
theorem zy (wb b f0 f1 f2:Nat) (K:KV) (T:List DM) (q:aA) (M:List Nat) (lvv mv:Value) (p0 p1 p2:ak) (w:World) (h:WK w wb b K T q M lvv mv)
  (h0:K.A.list[f0]?=some p0/\p0.taken=true/\f0<=4294967295) (h1:K.A.list[f1]?=some p1/\p1.taken=true/\f1<=4294967295) (h2:K.A.list[f2]?=some p2/\p2.taken=true/\f2<=4294967295) :
  Calls Tryz.prog 213 #[.pointer (some ⟨wb,0,none⟩),.agg #[.int .u32 f0,.int .u32 f1,.int .u32 f2]] w fun e w' =>
   ∃ v:Value,e=.returned v/\NdR w v [p0,p1,p2] w':=by
 have HW:=Lib.hid h;have H0:=Lib.hid h0;have H1:=Lib.hid h1;have H2:=Lib.hid h2;obtain ⟨i,sG,tV,jY,fE⟩:=info_parts Tryz.Xl;have HI:=Lib.hid sG;have HZ:=Lib.hid tV;have Cm:=Lib.hid jY;have F6:=Lib.hid fE
 have HN0:Hid (∀ wr,af [] w wr->WK wr wb b K T q M lvv mv):=fun wr u=>h.upd u (by simp)
 have hx0:∀ w,(Instr.index 228 (.agg #[.int .u32 f0,.int .u32 f1,.int .u32 f2]) (.int .i64 0)).run Tryz.prog w=.ok (.int .u32 f0) w:=fun _=>by kernel_rfl
 have hx1:∀ w,(Instr.index 228 (.agg #[.int .u32 f0,.int .u32 f1,.int .u32 f2]) (.int .i64 1)).run Tryz.prog w=.ok (.int .u32 f1) w:=fun _=>by kernel_rfl
 have hx2:∀ w,(Instr.index 228 (.agg #[.int .u32 f0,.int .u32 f1,.int .u32 f2]) (.int .i64 2)).run Tryz.prog w=.ok (.int .u32 f2) w:=fun _=>by kernel_rfl
 clear h h0 h1 h2 sG tV jY fE
 go_enter Tryz.func213,Tryz.ntmps213
 go_wp2_with fail
 go_loopg [5,11] 3 (fun g s5 s11 wr=>(g=3/\s11=.int .i64 0/\NdR w s5 [] wr)\/(g=2/\s11=.int .i64 1/\NdR w s5 [p0] wr)\/(g=1/\s11=.int .i64 2/\NdR w s5 [p0,p1] wr)\/(g=0/\s11=.int .i64 3/\NdR w s5 [p0,p1,p2] wr))
 case atStart =>
  exact .inl ⟨rfl,rfl,World.ownsRow_nil _ _ _ _,(af.refl [] w).alloc _⟩
 case round =>
  rcases hrel with ⟨rfl,rfl,hR⟩ | ⟨rfl,rfl,hR⟩ | ⟨rfl,rfl,hR⟩ | ⟨rfl,rfl,hR⟩
  ·have HR:=Lib.hid hR
   have c0:wr.cell? ⟨wb,0,none⟩=some (.pointer (some ⟨b,0,none⟩)):=ae (HN0.out _ hR.up).wk.blk rfl;clear hR;go_wp2_with fail;refine (iF b f0 K T q p0 _ (HN0.out _ HR.out.up).ker.mem H0.out.2.2 H0.out.1 H0.out.2.1).mono ?_;rintro e w1 ⟨rfl,hu⟩;have aY:=heap_alloc_new w1 (.cells #[.int .i64 p0.var,.int .u32 p0.lo,.int .u32 p0.hi] 116 (0,0));have b0:(w1.alloc (.cells #[.int .i64 p0.var,.int .u32 p0.lo,.int .u32 p0.hi] 116 (0,0))).cell? ⟨w1.heap.size,0,none⟩=some (.int .i64 p0.var):=ae aY rfl;have b1:(w1.alloc (.cells #[.int .i64 p0.var,.int .u32 p0.lo,.int .u32 p0.hi] 116 (0,0))).cell? ⟨w1.heap.size,1,none⟩=some (.int .u32 p0.lo):=ae aY rfl;have b2:(w1.alloc (.cells #[.int .i64 p0.var,.int .u32 p0.lo,.int .u32 p0.hi] 116 (0,0))).cell? ⟨w1.heap.size,2,none⟩=some (.int .u32 p0.hi):=ae aY rfl;have HU:=Lib.hid hu
   have aC:=ai HR.out.row fun k hk=>hu.block k (HR.out.row.lt k hk).2 (by simp)
   obtain ⟨fa,fc,hv,_⟩:=aj aC;have HV:=Lib.hid hv;subst hv;have bF:=Lib.hid (aC.alloc (.cells #[.int .i64 p0.var,.int .u32 p0.lo,.int .u32 p0.hi] 116 (0,0)));have dG:w.heap.size<=w1.heap.size:=(HR.out.up.trans hu).size
   have mg:Hid (∀ u,u∈p0.node->u.oneCell'=true):=by intro u hu;simp [ak.node] at hu;rcases hu with rfl | rfl | rfl <;> rfl
   have pW:w.heap.size<=((w1.alloc (.cells #[.int .i64 p0.var,.int .u32 p0.lo,.int .u32 p0.hi] 116 (0,0))).alloc (.cells #[.int .i64 p0.var,.int .u32 p0.lo,.int .u32 p0.hi] 116 (0,0))).heap.size:=by rw [World.size_alloc,World.size_alloc];omega
   clear hu aY aC
   go_wp2_with (at_builtin;go_must (refine wpList_append_lies _ rfl (.tmp 23) (.tmp 25) 282 rfl w.heap.size 116 i _ 3 16 Tryz.underlying282 HI.out HZ.out Cm.out F6.out (by rfl) (by decide) _ 0 (eu []) rfl (bF.out.alloc _) ⟨w1.heap.size+1,0,none⟩ 1 1 p0.node rfl rfl ?c1 mg.out (by omega) (by unfold maxLen;omega) (by omega) pW _ rfl ?_))
   case c1 =>
    have e:=heap_alloc_new (w1.alloc (.cells #[.int .i64 p0.var,.int .u32 p0.lo,.int .u32 p0.hi] 116 (0,0))) (.cells #[.int .i64 p0.var,.int .u32 p0.lo,.int .u32 p0.hi] 116 (0,0));rw [World.size_alloc] at e;exact World.news_of_block e
   intro g5 cap w5 aK dh bI pF
   have HE:Hid (NdR w (.slice (some ⟨g5,0,none⟩) 1 cap) ([]++[p0]) w5):=by
    refine ⟨?_,?_⟩
    ·rw [nX];exact aK
    ·refine (((HR.out.up.trans HU.out).alloc _).alloc _).grown dh fun k hk=>.inr ?_
     exact (bF.out.lt k hk).1
   clear aK dh bI pF;go_wp2_with fail
   go_roundg (2:Nat)
   case measure=>decide
   case rel=>exact .inr (.inl ⟨rfl,rfl,HE.out⟩)
  ·have HR:=Lib.hid hR
   have c0:wr.cell? ⟨wb,0,none⟩=some (.pointer (some ⟨b,0,none⟩)):=ae (HN0.out _ hR.up).wk.blk rfl;clear hR;go_wp2_with fail;refine (iF b f1 K T q p1 _ (HN0.out _ HR.out.up).ker.mem H1.out.2.2 H1.out.1 H1.out.2.1).mono ?_;rintro e w1 ⟨rfl,hu⟩;have aY:=heap_alloc_new w1 (.cells #[.int .i64 p1.var,.int .u32 p1.lo,.int .u32 p1.hi] 116 (0,0));have b0:(w1.alloc (.cells #[.int .i64 p1.var,.int .u32 p1.lo,.int .u32 p1.hi] 116 (0,0))).cell? ⟨w1.heap.size,0,none⟩=some (.int .i64 p1.var):=ae aY rfl;have b1:(w1.alloc (.cells #[.int .i64 p1.var,.int .u32 p1.lo,.int .u32 p1.hi] 116 (0,0))).cell? ⟨w1.heap.size,1,none⟩=some (.int .u32 p1.lo):=ae aY rfl;have b2:(w1.alloc (.cells #[.int .i64 p1.var,.int .u32 p1.lo,.int .u32 p1.hi] 116 (0,0))).cell? ⟨w1.heap.size,2,none⟩=some (.int .u32 p1.hi):=ae aY rfl;have HU:=Lib.hid hu
   have aC:=ai HR.out.row fun k hk=>hu.block k (HR.out.row.lt k hk).2 (by simp)
   obtain ⟨fa,fc,hv,_⟩:=aj aC;have HV:=Lib.hid hv;subst hv;have bF:=Lib.hid (aC.alloc (.cells #[.int .i64 p1.var,.int .u32 p1.lo,.int .u32 p1.hi] 116 (0,0)));have dG:w.heap.size<=w1.heap.size:=(HR.out.up.trans hu).size
   have mg:Hid (∀ u,u∈p1.node->u.oneCell'=true):=by intro u hu;simp [ak.node] at hu;rcases hu with rfl | rfl | rfl <;> rfl
   have pW:w.heap.size<=((w1.alloc (.cells #[.int .i64 p1.var,.int .u32 p1.lo,.int .u32 p1.hi] 116 (0,0))).alloc (.cells #[.int .i64 p1.var,.int .u32 p1.lo,.int .u32 p1.hi] 116 (0,0))).heap.size:=by rw [World.size_alloc,World.size_alloc];omega
   clear hu aY aC
   go_wp2_with (at_builtin;go_must (refine wpList_append_lies _ rfl (.tmp 23) (.tmp 25) 282 rfl w.heap.size 116 i _ 3 16 Tryz.underlying282 HI.out HZ.out Cm.out F6.out (by rfl) (by decide) _ 1 (eu [p0]) rfl (bF.out.alloc _) ⟨w1.heap.size+1,0,none⟩ 1 1 p1.node rfl rfl ?c1 mg.out (by omega) (by unfold maxLen;omega) (by omega) pW _ rfl ?_))
   case c1 =>
    have e:=heap_alloc_new (w1.alloc (.cells #[.int .i64 p1.var,.int .u32 p1.lo,.int .u32 p1.hi] 116 (0,0))) (.cells #[.int .i64 p1.var,.int .u32 p1.lo,.int .u32 p1.hi] 116 (0,0));rw [World.size_alloc] at e;exact World.news_of_block e
   intro g5 cap w5 aK dh bI pF
   have HE:Hid (NdR w (.slice (some ⟨g5,0,none⟩) 2 cap) ([p0]++[p1]) w5):=by
    refine ⟨?_,?_⟩
    ·rw [nX];exact aK
    ·refine (((HR.out.up.trans HU.out).alloc _).alloc _).grown dh fun k hk=>.inr ?_
     exact (bF.out.lt k hk).1
   clear aK dh bI pF;go_wp2_with fail
   go_roundg (1:Nat)
   case measure=>decide
   case rel=>exact .inr (.inr (.inl ⟨rfl,rfl,HE.out⟩))
  ·have HR:=Lib.hid hR
   have c0:wr.cell? ⟨wb,0,none⟩=some (.pointer (some ⟨b,0,none⟩)):=ae (HN0.out _ hR.up).wk.blk rfl;clear hR;go_wp2_with fail;refine (iF b f2 K T q p2 _ (HN0.out _ HR.out.up).ker.mem H2.out.2.2 H2.out.1 H2.out.2.1).mono ?_;rintro e w1 ⟨rfl,hu⟩;have aY:=heap_alloc_new w1 (.cells #[.int .i64 p2.var,.int .u32 p2.lo,.int .u32 p2.hi] 116 (0,0));have b0:(w1.alloc (.cells #[.int .i64 p2.var,.int .u32 p2.lo,.int .u32 p2.hi] 116 (0,0))).cell? ⟨w1.heap.size,0,none⟩=some (.int .i64 p2.var):=ae aY rfl;have b1:(w1.alloc (.cells #[.int .i64 p2.var,.int .u32 p2.lo,.int .u32 p2.hi] 116 (0,0))).cell? ⟨w1.heap.size,1,none⟩=some (.int .u32 p2.lo):=ae aY rfl;have b2:(w1.alloc (.cells #[.int .i64 p2.var,.int .u32 p2.lo,.int .u32 p2.hi] 116 (0,0))).cell? ⟨w1.heap.size,2,none⟩=some (.int .u32 p2.hi):=ae aY rfl;have HU:=Lib.hid hu
   have aC:=ai HR.out.row fun k hk=>hu.block k (HR.out.row.lt k hk).2 (by simp)
   obtain ⟨fa,fc,hv,_⟩:=aj aC;have HV:=Lib.hid hv;subst hv;have bF:=Lib.hid (aC.alloc (.cells #[.int .i64 p2.var,.int .u32 p2.lo,.int .u32 p2.hi] 116 (0,0)));have dG:w.heap.size<=w1.heap.size:=(HR.out.up.trans hu).size
   have mg:Hid (∀ u,u∈p2.node->u.oneCell'=true):=by intro u hu;simp [ak.node] at hu;rcases hu with rfl | rfl | rfl <;> rfl
   have pW:w.heap.size<=((w1.alloc (.cells #[.int .i64 p2.var,.int .u32 p2.lo,.int .u32 p2.hi] 116 (0,0))).alloc (.cells #[.int .i64 p2.var,.int .u32 p2.lo,.int .u32 p2.hi] 116 (0,0))).heap.size:=by rw [World.size_alloc,World.size_alloc];omega
   clear hu aY aC
   go_wp2_with (at_builtin;go_must (refine wpList_append_lies _ rfl (.tmp 23) (.tmp 25) 282 rfl w.heap.size 116 i _ 3 16 Tryz.underlying282 HI.out HZ.out Cm.out F6.out (by rfl) (by decide) _ 2 (eu [p0,p1]) rfl (bF.out.alloc _) ⟨w1.heap.size+1,0,none⟩ 1 1 p2.node rfl rfl ?c1 mg.out (by omega) (by unfold maxLen;omega) (by omega) pW _ rfl ?_))
   case c1 =>
    have e:=heap_alloc_new (w1.alloc (.cells #[.int .i64 p2.var,.int .u32 p2.lo,.int .u32 p2.hi] 116 (0,0))) (.cells #[.int .i64 p2.var,.int .u32 p2.lo,.int .u32 p2.hi] 116 (0,0));rw [World.size_alloc] at e;exact World.news_of_block e
   intro g5 cap w5 aK dh bI pF
   have HE:Hid (NdR w (.slice (some ⟨g5,0,none⟩) 3 cap) ([p0,p1]++[p2]) w5):=by
    refine ⟨?_,?_⟩
    ·rw [nX];exact aK
    ·refine (((HR.out.up.trans HU.out).alloc _).alloc _).grown dh fun k hk=>.inr ?_
     exact (bF.out.lt k hk).1
   clear aK dh bI pF;go_wp2_with fail
   go_roundg (0:Nat)
   case measure=>decide
   case rel=>exact .inr (.inr (.inr (⟨rfl,rfl,HE.out⟩)))
  ·have HR:=Lib.hid hR
   clear hR;go_wp2_with fail;go_ret;exact ⟨_,rfl,HR.out⟩
theorem lM:∀ (l:List ak) (r j:Nat),j<3->(eu l)[r*3+j]?=(l[r]?).bind (fun p=>p.node[j]?)
 | [],r,j,_=>by simp [eu]
 | p::l,0,j,hj=>by
  have e:eu (p::l)=p.node++eu l:=rfl
  rw [e,List.getElem?_append_left (by simp [ak.node];omega)];simp
 | p::l,r+1,j,hj=>by
  have e:eu (p::l)=p.node++eu l:=rfl;rw [e,List.getElem?_append_right (by simp [ak.node];omega),show (r+1)*3+j-p.node.length=r*3+j by simp [ak.node];omega,lM l r j hj];simp
def oH (K:KV) (v:Int) (p:ak):Int:=if 0<=p.var/\(v<0\/K.lev p.var.toNat<K.lev v.toNat) then p.var else v
def KV.top (K:KV) (l:List ak):Int:=l.foldl (oH K) (-1)
def KV.rD (K:KV) (v:Int):Prop:=v=-1\/∃ n:Nat,v=(n:Int)/\n<K.vars
theorem La (K:KV) (l:List ak) (p:ak):K.top (l++[p])=oH K (K.top l) p:=by simp [KV.top]
theorem ady {K:KV} {l:List ak} (h:∀ p,p∈l->K.rD p.var):K.rD (K.top l):=by
 have key:∀ (l:List ak) (v:Int),K.rD v->(∀ p,p∈l->K.rD p.var)->K.rD (l.foldl (oH K) v):=by
  intro l
  induction l with
  | nil=>intro v hv _;exact hv
  | cons p l ih =>
   intro v hv h
   refine ih _ ?_ fun p hp=>h p (List.mem_cons_of_mem _ hp)
   unfold oH;split
   ·exact h p (by simp)
   ·exact hv
 exact key l (-1) (.inl rfl) h
theorem WK.adz {w:World} {wb b:Nat} {K:KV} {T:List DM} {q:aA} {M:List Nat} {lvv mv:Value} (h:WK w wb b K T q M lvv mv) :
  ∃ g c,lvv=.slice (some ⟨g,0,none⟩) K.level.length c/\w.cell? ⟨wb,1,none⟩=some (.slice (some ⟨g,0,none⟩) K.level.length c)/\∀ n,n<K.vars->w.cell? ⟨g,n,none⟩=some (.int .i64 (K.lev n)):=by
 have Bv:=h.ker.ok.ord.pm.ll;have zx:=h.ker.ok.wf.vs;obtain ⟨g,c,hq,_,_⟩:=h.wk.ls.form (by omega);refine ⟨g,c,hq,by rw [<- hq];exact ae h.wk.blk rfl,fun n hn=>?_⟩;have:=h.wk.ls;rw [hq] at this;exact au this (by simp [aQ,KV.lev,show n<K.level.length by omega])
theorem Fz (wb b:Nat) (K:KV) (T:List DM) (q:aA) (M:List Nat) (lvv mv v:Value) (base:Nat) (ps:List ak) (w:World) (h:WK w wb b K T q M lvv mv) (aC:w.ownsRow base 116 3 v ps.length (eu ps)) (hp:∀ p,p∈ps->K.rD p.var) (hl:ps.length<=1000) :
  Calls Tryz.prog 214 #[.pointer (some ⟨wb,0,none⟩),v] w fun e w'=>e=.returned (.int .i64 (K.top ps))/\af [] w w':=by
 obtain ⟨fa,fc,rfl,_⟩:=aj aC;have bF:=Lib.hid aC;have HP:=Lib.hid hp;have HW:=Lib.hid h;have zx:=h.ker.ok.wf.vs;have Bv:=h.ker.ok.ord.pm.ll;clear h aC hp
 go_enter Tryz.func214,Tryz.ntmps214
 go_wp2_with fail
 go_loopg [5,10] ps.length (fun g s5 s10 wr=>∃ i:Nat,ps.length-i=g/\i<=ps.length/\s10=.int .i64 i/\s5=.int .i64 (K.top (ps.take i))/\af [] w wr)
 case atStart =>
  exact ⟨0,by omega,by omega,rfl,rfl,af.refl _ _⟩
 case round =>
  obtain ⟨i,rfl,hi,rfl,rfl,hU⟩:=hrel
  by_cases aW:i<ps.length
  ·obtain ⟨p,hpi⟩ : ∃ p,ps[i]?=some p:=⟨_,List.getElem?_eq_getElem aW⟩
   have IZ:=List.mem_of_getElem? hpi;obtain ⟨gr,rfl⟩:=bC bF.out (by omega)
   have hr:=ai bF.out fun k hk=>hU.block k (bF.out.lt k hk).2 (by simp)
   have d0:wr.cell? ⟨gr,i*3,none⟩=some (.int .i64 p.var):=au hr (by have:=lM ps i 0 (by omega);rw [Nat.add_zero] at this;rw [this,hpi];rfl);have d1:wr.cell? ⟨gr,i*3+1,none⟩=some (.int .u32 p.lo):=au hr (by rw [lM ps i 1 (by omega),hpi];rfl);have d2:wr.cell? ⟨gr,i*3+2,none⟩=some (.int .u32 p.hi):=au hr (by rw [lM ps i 2 (by omega),hpi];rfl)
   have fF:(i:Int)<(ps.length:Int):=by omega
   have HT:Hid (K.top (ps.take (i+1))=oH K (K.top (ps.take i)) p):=by
    show K.top (ps.take (i+1))=_
    rw [List.take_add_one,hpi];exact La K _ p
   have hvo:=ady (K:=K) (l:=ps.take i) (fun p hp=>HP.out p (List.mem_of_mem_take hp));have hpo:=HP.out p IZ;have HU:=Lib.hid hU;clear hU hr hpi IZ;generalize K.top (ps.take i)=v at hvo HT
   have auF:∀ X,wr.heap.size<(wr.alloc X).heap.size:=fun X=>by rw [World.size_alloc];omega
   have HK:Hid (∀ X,WK (wr.alloc X) wb b K T q M lvv mv):=fun X=>HW.out.upd (HU.out.alloc X) (by simp)
   rcases hpo with kD | ⟨n,kD,hn⟩
   ·have Eh:Hid (oH K v p=v):=by
     show oH K v p=v
     unfold oH;rw [if_neg (by rw [kD];omega)]
    rw [kD] at d0;have aY:=heap_alloc_new wr (.cells #[.int .i64 (-1),.int .u32 p.lo,.int .u32 p.hi] 116 (0,0));have b0:(wr.alloc (.cells #[.int .i64 (-1),.int .u32 p.lo,.int .u32 p.hi] 116 (0,0))).cell? ⟨wr.heap.size,0,none⟩=some (.int .i64 (-1)):=ae aY rfl;clear kD aY hvo;go_wp2_with fail
    go_quiet (fail)
    go_wp2_with fail
    go_roundg (ps.length-(i+1))
    case measure=>omega
    case rel=>exact ⟨i+1,rfl,by omega,by simp,by rw [HT.out,Eh.out],(HU.out.alloc _).drewN _⟩
   ·rw [kD] at d0
    have aY:=heap_alloc_new wr (.cells #[.int .i64 (n:Int),.int .u32 p.lo,.int .u32 p.hi] 116 (0,0));have b0:(wr.alloc (.cells #[.int .i64 (n:Int),.int .u32 p.lo,.int .u32 p.hi] 116 (0,0))).cell? ⟨wr.heap.size,0,none⟩=some (.int .i64 n):=ae aY rfl;obtain ⟨gl,cl,_,c1,clv⟩:=(HK.out (.cells #[.int .i64 (n:Int),.int .u32 p.lo,.int .u32 p.hi] 116 (0,0))).adz;have cn:=clv n hn
    have hnl:(n:Int)<(K.level.length:Int):=by omega
    have JP:K.level.length<=64:=by omega
    have HPV:=Lib.hid kD;clear kD aY
    rcases hvo with rfl | ⟨m,rfl,hm⟩
    ·have Eh:Hid (oH K (-1) p=(n:Int)):=by
      show oH K (-1) p=n
      unfold oH;rw [if_pos ⟨by rw [HPV.out];omega,.inl (by omega)⟩];exact HPV.out
     clear clv;go_wp2_with fail
     go_quiet (fail)
     go_wp2_with fail
     go_roundg (ps.length-(i+1))
     case measure=>omega
     case rel=>exact ⟨i+1,rfl,by omega,by simp,by rw [HT.out,Eh.out],(HU.out.alloc _).drewN _⟩
    ·have cm:=clv m hm
     have hml:(m:Int)<(K.level.length:Int):=by omega
     clear clv
     by_cases Ht:K.lev n<K.lev m
     ·have Eh:Hid (oH K (m:Int) p=(n:Int)):=by
       show oH K (m:Int) p=n
       unfold oH;rw [HPV.out,if_pos ⟨by omega,.inr (by simpa using Ht)⟩]
      have AY:decide ((K.lev n:Int)<(K.lev m:Int))=true:=by simp;omega
      have wP:decide (K.lev n<K.lev m)=true:=by simp;omega
      go_wp2_with fail
      go_quiet (fail)
      go_wp2_with fail
      go_roundg (ps.length-(i+1))
      case measure=>omega
      case rel=>exact ⟨i+1,rfl,by omega,by simp,by rw [HT.out,Eh.out],(HU.out.alloc _).drewN _⟩
     ·have Eh:Hid (oH K (m:Int) p=(m:Int)):=by
       show oH K (m:Int) p=m
       unfold oH;rw [HPV.out,if_neg (fun ⟨_,h⟩=>h.elim (fun h=>by omega) (fun h=>Ht (by simpa using h)))]
      have AY:decide ((K.lev n:Int)<(K.lev m:Int))=false:=by simp;omega
      have wP:decide (K.lev n<K.lev m)=false:=by simp;omega
      have U0:¬ ((K.lev n:Int)<(K.lev m:Int)):=by omega
      go_wp2_with fail
      go_quiet (fail)
      go_wp2_with fail
      go_roundg (ps.length-(i+1))
      case measure=>omega
      case rel=>exact ⟨i+1,rfl,by omega,by simp,by rw [HT.out,Eh.out],(HU.out.alloc _).drewN _⟩
  ·obtain rfl:i=ps.length:=by omega
   rw [List.take_length];have HU:=Lib.hid hU;clear hU;go_wp2_with fail;go_ret;exact ⟨rfl,HU.out⟩
end Go.Proofs.YtfkopmhpppeheaaGreat
