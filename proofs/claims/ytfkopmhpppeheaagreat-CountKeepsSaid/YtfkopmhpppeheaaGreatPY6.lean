import Derived.Test.YtfkopmhpppeheaaGreatPY5
import Derived.Deep.RegionHeld3
set_option maxRecDepth 100000
set_option maxHeartbeats 1600000
namespace Go.Proofs.YtfkopmhpppeheaaGreat
open Go.RowKit Go.Maps Go.ChangeMaps Go.WideShapes
def KV.At (K:KV) (r v lo hi:Nat):Prop:=2<=r/\∃ p,K.A.list[r]?=some p/\p.taken=true/\p.var=(v:Int)/\p.lo=lo/\p.hi=hi
theorem KV.At.tk {K:KV} {r v lo hi:Nat} (h:K.At r v lo hi):K.A.tk r=true:=by
 obtain ⟨_,p,hp,hpt,_⟩:=h;exact ArenaV.tk_iff.2 ⟨p,hp,hpt⟩
theorem KV.At.lt {K:KV} {P:List Nat} {r v lo hi:Nat} (h:K.At r v lo hi) (hw:K.Wf P):r<=1048575:=by
 have h1:=hw.tu r h.1 h.tk;have h4:=hw.ul;have h5:=hw.ok.lp;have h6:=hw.ok.pm;omega
theorem TInv.look {T:List DM} {K:KV} {P:List Nat} {v lo hi:Nat} {D:DM} (h:TInv T K []) (hw:K.Wf P) (hv:v<K.vars) (hD:T[v]?=some D) (h1:lo<=4294967295) (h2:hi<=4294967295) {c:Int} (hc:D.atKey (nk v lo hi) (.lit (.int .u32 0))=.lit (.int .u32 c)) :
  (Maps.has D (nk v lo hi)=true/\∃ r:Nat,c=(r:Int)/\K.At r v lo hi)\/(Maps.has D (nk v lo hi)=false/\c=0/\∀ r,¬ K.At r v lo hi):=by
 have hvs:=hw.vs
 cases hh:Maps.has D (nk v lo hi) with
 | true =>
  left;obtain ⟨r,p,hr,hp,hpt,hpv,hk,_⟩:=h.dom v D _ hD hh;have h4:=hw.ok.u32 p (List.mem_of_getElem? hp);have hvr:=hw.vr r p hr hp hpt;obtain ⟨e1,e2,e3⟩:=nk_inj (wfI (by omega) (by omega)) (wfR h1) (wfR h2) (wfI (by omega) (by omega)) (wfR h4.1) (wfR h4.2.1) hk;have hat:=(h.at_ r p D hr hp hpt (by simp) (by rw [hpv];exact hD)).2 (.lit (.int .u32 0));rw [<- hk,hc] at hat
  simp at hat
  exact ⟨rfl,r,hat,hr,p,hp,hpt,hpv,e2.symm,e3.symm⟩
 | false =>
  right;rw [atKey_of_not_has hh] at hc
  simp at hc
  refine ⟨rfl,hc.symm,?_⟩;rintro r ⟨hr,p,hp,hpt,e1,e2,e3⟩;have:=(h.at_ r p D hr hp hpt (by simp) (by rw [e1];exact hD)).1;rw [show nkp p=nk v lo hi by simp [nkp,e1,e2,e3],hh] at this;cases this
theorem TInv.not_has {T:List DM} {K:KV} {v lo hi:Nat} {D:DM} (h:TInv T K []) (hD:T[v]?=some D) (hno:∀ r,¬ K.At r v lo hi) (hw:K.Wf []) (hv:v<K.vars) (h1:lo<=4294967295) (h2:hi<=4294967295):Maps.has D (nk v lo hi)=false:=by
 have hvs:=hw.vs
 cases hh:Maps.has D (nk v lo hi) with
 | false=>rfl
 | true =>
  exfalso
  obtain ⟨r,p,hr,hp,hpt,hpv,hk,_⟩:=h.dom v D _ hD hh;have h4:=hw.ok.u32 p (List.mem_of_getElem? hp);have hvr:=hw.vr r p hr hp hpt;obtain ⟨e1,e2,e3⟩:=nk_inj (wfI (by omega) (by omega)) (wfR h1) (wfR h2) (wfI (by omega) (by omega)) (wfR h4.1) (wfR h4.2.1) hk;exact hno r ⟨hr,p,hp,hpt,hpv,e2.symm,e3.symm⟩
theorem seek_same (b r:Nat) (v:Int) (w:World) :
  Calls Tryz.prog 205 #[.pointer (some ⟨b,0,none⟩),.int .i64 v,.int .u32 r,.int .u32 r] w fun e w'=>e=.returned (.tuple #[.int .u32 r,.bool true])/\w'=w:=by
 go_enter Tryz.func205,Tryz.ntmps205
 go_wp2_with fail;go_ret2;exact ⟨rfl,rfl⟩
theorem seek_spec (b v lo hi:Nat) (K:KV) (T:List DM) (q:KPtr) (w:World) (h:KerMem w b K T q) (hw:K.Wf []) (ht:TInv T K []) (hv:v<K.vars) (h1:lo<=4294967295) (h2:hi<=4294967295) (hne:lo≠hi) :
  Calls Tryz.prog 205 #[.pointer (some ⟨b,0,none⟩),.int .i64 v,.int .u32 lo,.int .u32 hi] w fun e w' =>
   Upd [] w w'/\((∃ r:Nat,e=.returned (.tuple #[.int .u32 r,.bool true])/\K.At r v lo hi)\/(e=.returned (.tuple #[.int .u32 0,.bool false])/\∀ r,¬ K.At r v lo hi)):=by
 have hlen:=ht.len;have hD:T[v]?=some (T[v]'(by omega)):=List.getElem?_eq_getElem (by omega);generalize T[v]'(by omega)=D at hD;have c1:w.cell? ⟨b,1,none⟩=some (.pointer (some ⟨q.t,0,none⟩)):=cell_at h.blk rfl;have HT:=Lib.hid h.tab;have HD:=Lib.hid hD;have HL:=Lib.hid (And.intro hw ht)
 have hd:¬ ((lo:Int)=(hi:Int)):=by omega
 have hd3:((lo:Int) == (hi:Int))=false:=by simp;omega
 clear h hw ht hlen hD
 go_enter Tryz.func205,Tryz.ntmps205
 go_wp2_with fail;refine (find_spec q.t q.FT v lo hi T D _ HT.out HD.out h1 h2).mono ?_;rintro e w1 ⟨c,rfl,hc,hu⟩;have HC:=Lib.hid (HL.out.2.look HL.out.1 hv HD.out h1 h2 hc);have HU:=Lib.hid hu;clear hc hu;generalize Maps.has D (nk v lo hi)=bb at HC;go_wp2_with fail;go_ret2;refine ⟨HU.out,?_⟩
 rcases HC.out with ⟨rfl,r,rfl,ha⟩ | ⟨rfl,rfl,hno⟩
 ·exact .inl ⟨r,rfl,ha⟩
 ·exact .inr ⟨rfl,hno⟩
theorem Sub.of_old {S S':List Nat} {w:World} (h:∀ k,k∈S'->k∈S):Sub S w S':=fun k hk=>.inl (h k hk)
def KV.Has (K:KV) (v:Int) (lo hi r:Nat):Prop:=(lo=hi/\r=lo)\/(lo≠hi/\K.At r v.toNat lo hi)
inductive MakeR (K:KV) (v:Int) (lo hi:Nat):Nat->Int->KV->Prop
 | bad (h0:K.fitsE v lo hi≠0):MakeR K v lo hi 0 (K.fitsE v lo hi) K
 | full {r:Nat} (h0:K.fitsE v lo hi=0) (hs:K.Has v lo hi r) (hm:K.hold r=65535):MakeR K v lo hi 0 8 K
 | old {r:Nat} (h0:K.fitsE v lo hi=0) (hs:K.Has v lo hi r) (hm:K.hold r<65535):MakeR K v lo hi r 0 (K.keepK r)
 | nodes (h0:K.fitsE v lo hi=0) (hne:lo≠hi) (hno:∀ r,¬ K.At r v.toNat lo hi) (hu:K.A.used=K.A.places):MakeR K v lo hi 0 9 K
 | new {r:Nat} {K':KV} (h0:K.fitsE v lo hi=0) (hne:lo≠hi) (hno:∀ r,¬ K.At r v.toNat lo hi) (hm:K.Made v.toNat lo hi r K'):MakeR K v lo hi r 0 K'
theorem KV.fits0 {K:KV} {v:Int} {lo hi:Nat} (h:K.fitsE v lo hi=0):∃ n:Nat,v=(n:Int)/\n<K.vars/\K.A.tk lo=true/\K.A.tk hi=true/\(lo≠hi->K.lev n<K.dep lo/\K.lev n<K.dep hi):=by
 unfold KV.fitsE at h
 split at h
 ·omega
 ·rename_i h1
  split at h
  ·omega
  ·rename_i h2
   split at h
   ·omega
   ·rename_i h3
    simp [KV.isVar] at h1
    refine ⟨v.toNat,by omega,by omega,?_,?_,fun hne=>?_⟩
    ·cases e:K.A.tk lo
     ·exact absurd (.inl e) h2
     ·rfl
    ·cases e:K.A.tk hi
     ·exact absurd (.inr e) h2
     ·rfl
    ·by_cases h4:K.lev v.toNat<min (K.dep lo) (K.dep hi)
     ·omega
     ·exact absurd ⟨hne,h4⟩ h3
theorem MakeR.of_keep {K:KV} {v:Int} {lo hi r:Nat} {code:Int} {K':KV} (h0:K.fitsE v lo hi=0) (hs:K.Has v lo hi r) (h:(code=8/\K.hold r=65535/\K'=K)\/(code=0/\K.hold r<65535/\K'=K.keepK r)) :
  MakeR K v lo hi (if code=0 then r else 0) code K':=by
 rcases h with ⟨rfl,h,rfl⟩ | ⟨rfl,h,rfl⟩
 ·exact .full h0 hs h
 ·exact .old h0 hs h
theorem make_spec (b:Nat) (v:Int) (lo hi:Nat) (K:KV) (T:List DM) (q:KPtr) (w:World) (h:KerIn w b K T q) (h1:lo<=4294967295) (h2:hi<=4294967295) :
  Calls Tryz.prog 137 #[.pointer (some ⟨b,0,none⟩),.int .i64 v,.int .u32 lo,.int .u32 hi] w fun e w' =>
   ∃ (r:Nat) (code:Int) (K':KV) (T':List DM) (q':KPtr),e=.returned (.tuple #[.int .u32 r,.int .i64 code])/\MakeR K v lo hi r code K'/\KerIn w' b K' T' q'/\Upd (q.all b) w w'/\Sub (q.all b) w (q'.all b):=by
 have HK:=Lib.hid h
 by_cases hf:K.fitsE v lo hi=0
 ·obtain ⟨n,rfl,hn,hl,hh,hlt⟩:=KV.fits0 hf
  have HF:=Lib.hid hf;have HL:=Lib.hid (And.intro hl (And.intro hh hlt))
  by_cases hlh:lo=hi
  ·subst hlh
   have hS:Hid (K.Has n lo lo lo):=.inl ⟨rfl,rfl⟩;clear h hf hl hh hlt
   go_enter Tryz.func137,Tryz.ntmps137
   go_wp2_with fail;refine (fits_spec b n lo lo K T q _ HK.out.mem HK.out.ok.wf HK.out.ok.ord h1 h2).mono ?_;rintro e w1 ⟨rfl,hu⟩;rw [HF.out];have HU:=Lib.hid hu;clear hu;go_wp2_with fail;refine (seek_same b lo n w1).mono ?_;rintro e w2 ⟨rfl,rfl⟩;go_wp2_with fail;refine (keep_any b lo K T q _ (HK.out.upd HU.out (by simp)) h1 HL.out.1).mono ?_;rintro e w3 ⟨code,K',q',rfl,hc,hk,hu3,hs3⟩;have HE:=Lib.hid (And.intro (MakeR.of_keep HF.out hS.out hc) (And.intro hk (And.intro (HU.out.trans0 hu3) (Sub.of_old (w:=w) hs3))))
   have hcode:code=8\/code=0:=by rcases hc with hc | hc <;> simp [hc.1]
   clear hc hk hu3 hs3
   rcases hcode with rfl | rfl
   ·go_wp2_with fail
    go_ret2;exact ⟨_,_,_,_,_,rfl,HE.out⟩
   ·go_wp2_with fail
    go_ret2;exact ⟨_,_,_,_,_,rfl,HE.out⟩
  ·have HLH:=Lib.hid hlh
   clear h hf hl hh hlt
   go_enter Tryz.func137,Tryz.ntmps137
   go_wp2_with fail;refine (fits_spec b n lo hi K T q _ HK.out.mem HK.out.ok.wf HK.out.ok.ord h1 h2).mono ?_;rintro e w1 ⟨rfl,hu⟩;rw [HF.out];have HU:=Lib.hid hu;clear hu;go_wp2_with fail;refine (seek_spec b n lo hi K T q _ (HK.out.mem.upd HU.out (by simp)) HK.out.ok.wf HK.out.ti hn h1 h2 hlh).mono ?_;rintro e w2 ⟨hu2,hr⟩;have HU2:=Lib.hid (HU.out.trans hu2);clear hu2
   rcases hr with ⟨r,rfl,ha⟩ | ⟨rfl,hno⟩
   ·have hS:Hid (K.Has n lo hi r):=.inr ⟨hlh,by simpa using ha⟩
    have hr32:r<=4294967295:=by have:=ha.lt HK.out.ok.wf;omega
    have HA:=Lib.hid ha;clear ha;go_wp2_with fail;refine (keep_any b r K T q _ (HK.out.upd HU2.out (by simp)) hr32 HA.out.tk).mono ?_;rintro e w3 ⟨code,K',q',rfl,hc,hk,hu3,hs3⟩;have HE:=Lib.hid (And.intro (MakeR.of_keep HF.out hS.out hc) (And.intro hk (And.intro (HU2.out.trans0 hu3) (Sub.of_old (w:=w) hs3))))
    have hcode:code=8\/code=0:=by rcases hc with hc | hc <;> simp [hc.1]
    clear hc hk hu3 hs3
    rcases hcode with rfl | rfl
    ·go_wp2_with fail
     go_ret2;exact ⟨_,_,_,_,_,rfl,HE.out⟩
    ·go_wp2_with fail
     go_ret2;exact ⟨_,_,_,_,_,rfl,HE.out⟩
   ·have HNO:=Lib.hid hno
    clear hno;go_wp2_with fail;refine (room_spec b 1 K T q _ (HK.out.mem.upd HU2.out (by simp)) (by omega) (by omega)).mono ?_;rintro e w3 ⟨rfl,hu3⟩;have HU3:=Lib.hid (HU2.out.trans hu3);clear hu3
    cases hrm:K.room 1 with
    | false =>
     have HRM:Hid (K.A.used=K.A.places):=by
      have h4:=HK.out.ok.wf.ok.us;have h5:=HK.out.ok.wf.ok.lp
      simp [KV.room] at hrm
      show K.A.used=K.A.places
      omega
     clear hrm;go_wp2_with fail;go_ret2;exact ⟨0,9,K,T,q,rfl,.nodes HF.out HLH.out (by simpa using HNO.out) HRM.out,HK.out.upd HU3.out (by simp),HU3.out.mono (by simp),Sub.refl _ _⟩
    | true =>
     have HRM:Hid (K.A.used<K.A.places):=by
      simp [KV.room] at hrm
      show K.A.used<K.A.places
      omega
     clear hrm;have hlen:=HK.out.ti.len;have hD:T[n]?=some (T[n]'(by omega)):=List.getElem?_eq_getElem (by omega);generalize T[n]'(by omega)=D at hD;have HD:=Lib.hid hD;have HDN:=Lib.hid (HK.out.ti.not_has hD HNO.out HK.out.ok.wf hn h1 h2);clear hlen hD;go_wp2_with fail;refine (take_spec b n lo hi K [] T D q _ (HK.out.mem.upd HU3.out (by simp)) HK.out.ok.wf HK.out.ti (by simp) hn HL.out.1 HL.out.2.1 h1 h2 HD.out HDN.out HRM.out).mono ?_;rintro e w4 ⟨r,K1,q1,rfl,tk,m4,u4,s4⟩
     have hr32:r<=4294967295:=by have:=tk.fr.room;omega
     have hwf:=tk.wf HK.out.ok.wf HL.out.1 HL.out.2.1 ⟨by omega,by omega⟩
     have htr:K1.A.tk r=true:=by rw [tk.fr.tk];simp
     have hh0:K1.hold r<65535:=by rw [tk.hd,if_pos rfl];omega
     have HT:=Lib.hid (And.intro tk (And.intro m4 (And.intro (HU3.out.trans0 u4) (And.intro hwf (And.intro htr (And.intro hh0 s4))))));clear tk m4 u4 s4 hwf htr hh0;go_wp2_with fail;refine (keep_yes b r K1 _ q1 _ HT.out.2.1 HT.out.2.2.2.1 hr32 HT.out.2.2.2.2.1 HT.out.2.2.2.2.2.1).mono ?_;rintro e w5 ⟨rfl,q2,m5,u5,s5⟩
     have HE:Hid (MakeR K n lo hi r 0 (K1.keepK r)/\KerIn w5 b (K1.keepK r) (T.set n (D.put (nk n lo hi) (.lit (.int .u32 r)))) q2/\Upd (q.all b) w w5/\Sub (q.all b) w (q2.all b)):=by
      obtain ⟨tk,m4,u4,hwf,htr,hh0,s4⟩:=HT.out;have hmade:=HK.out.ok.made tk HL.out.1 HL.out.2.1 hn HLH.out (HL.out.2.2 HLH.out).1 (HL.out.2.2 HLH.out).2
      have s4':Sub (q.all b) w (q1.all b):=fun k hk=>by
       have:=HU3.out.size
       rcases s4 k hk with h | h
       ·exact .inl h
       ·right;omega
      exact ⟨.new HF.out HLH.out (by simpa using HNO.out) (by simpa using hmade.2),⟨m5,(HK.out.ti.took tk HD.out HDN.out).same (K1.keepK_A r) (K1.keepK_vars r),hmade.1⟩,
       u4.then u5 s4',fun k hk=>s4' k (s5 k hk)⟩
     clear m5 u5 s5;go_wp2_with fail;go_ret2;exact ⟨_,_,_,_,_,rfl,HE.out⟩
 ·have HE:Hid (MakeR K v lo hi 0 (K.fitsE v lo hi) K):=.bad hf
  have HF:Hid (∀ w1,Upd [] w w1->KerIn w1 b K T q):=fun w1 u=>h.upd u (by simp)
  have HC:=fits_spec b v lo hi K T q w h.mem h.ok.wf h.ok.ord h1 h2;generalize K.fitsE v lo hi=c at hf HE HC;have HC:=Lib.hid HC
  have hf2:(c != 0)=true:=by simpa using hf
  clear h
  go_enter Tryz.func137,Tryz.ntmps137
  go_wp2_with fail;refine HC.out.mono ?_;rintro e w1 ⟨rfl,hu⟩;have HU:=Lib.hid hu;clear hu;go_wp2_with fail;go_ret2;exact ⟨0,c,K,T,q,rfl,HE.out,HF.out _ HU.out,HU.out.mono (by simp),Sub.refl _ _⟩
theorem vars_spec (b:Nat) (K:KV) (T:List DM) (q:KPtr) (w:World) (h:KerMem w b K T q) :
  Calls Tryz.prog 74 #[.pointer (some ⟨b,0,none⟩)] w fun e w'=>e=.returned (.int .i64 K.vars)/\w'=w:=by
 have c4:w.cell? ⟨b,4,none⟩=some (.int .i64 K.vars):=cell_at h.blk rfl;clear h
 go_enter Tryz.func74,Tryz.ntmps74
 go_wp2_with fail;go_ret;exact ⟨rfl,rfl⟩
theorem live_count (b:Nat) (K:KV) (T:List DM) (q:KPtr) (w:World) (h:KerMem w b K T q) :
  Calls Tryz.prog 33 #[.pointer (some ⟨b,0,none⟩)] w fun e w'=>e=.returned (.int .i64 ((K.A.used:Int)-2))/\w'=w:=by
 have c0:w.cell? ⟨b,0,none⟩=some (.pointer (some ⟨q.a,0,none⟩)):=cell_at h.blk rfl;have h1:=h.ar.ok.us;have h2:=h.ar.ok.lp;have h3:=h.ar.ok.pm
 have hu:K.A.used<=1048576:=by omega
 have e1:IntKind.i64.wrap ((K.A.used:Int)-2)=(K.A.used:Int)-2:=IntWalk.i64_in _ (by omega);have HA:=Lib.hid h.ar;clear h h1 h2 h3
 go_enter Tryz.func33,Tryz.ntmps33
 go_wp2_with fail;refine (used_spec q.a q.FA K.A w HA.out).mono ?_;rintro e w1 ⟨rfl,rfl⟩;go_wp2_with fail;go_ret;exact ⟨rfl,rfl⟩
theorem held_spec (b r:Nat) (K:KV) (T:List DM) (q:KPtr) (w:World) (h:KerMem w b K T q) (_hl:K.holds.length<=1048576) (hm:K.hold r<=65535) (hr:r<=4294967295) :
  Calls Tryz.prog 82 #[.pointer (some ⟨b,0,none⟩),.int .u32 r] w fun e w'=>e=.returned (.int .i64 (K.hold r))/\w'=w:=by
 have e64:wrap64 (K.hold r:Int)=(K.hold r:Int):=by unfold wrap64;omega
 obtain ⟨fa,fc,hfv,_⟩:=row_nil_len h.hs
 have hfv':q.hv=.slice fa K.holds.length fc:=by rw [hfv]
 have c3:w.cell? ⟨b,3,none⟩=some (.slice fa K.holds.length fc):=by rw [<- hfv'];exact cell_at h.blk rfl
 by_cases hlt:r<K.holds.length
 ·obtain ⟨g,c,hq,c3',cu,_,_⟩:=h.holdCell hlt
  have e:fa=some ⟨g,0,none⟩/\fc=c:=by rw [hfv'] at hq;simpa using hq
  obtain ⟨rfl,rfl⟩:=e
  have hd:decide ((K.holds.length:Int)<=(r:Int))=false:=by simp;omega
  have hd2:(r:Int)<(K.holds.length:Int):=by omega
  clear h hfv hfv' hq c3'
  go_enter Tryz.func82,Tryz.ntmps82
  go_wp2_with fail;go_ret;exact ⟨rfl,rfl⟩
 ·have hz:K.hold r=0:=by
   unfold KV.hold
   rw [List.getD_eq_getElem?_getD,List.getElem?_eq_none (by omega)];rfl
  have hd:decide ((K.holds.length:Int)<=(r:Int))=true:=by simp;omega
  have hd2:(K.holds.length:Int)<=(r:Int):=by omega
  have HZ:=Lib.hid hz;clear h hfv hfv' hz hlt
  go_enter Tryz.func82,Tryz.ntmps82
  go_wp2_with fail;go_ret;exact ⟨by rw [HZ.out];rfl,rfl⟩
theorem box3n {w1:World} {B:Nat} {x y z:Value} {t:TypeId} (h:w1.heap[B]?=some (.cells #[x,y,z] t (0,0))) (x' y' z':Value) :
  (((w1.setCell ⟨B,0,none⟩ x').setCell ⟨B,1,none⟩ y').setCell ⟨B,2,none⟩ z').cell? ⟨B,0,none⟩=some x' /\
  (((w1.setCell ⟨B,0,none⟩ x').setCell ⟨B,1,none⟩ y').setCell ⟨B,2,none⟩ z').cell? ⟨B,1,none⟩=some y' /\
  (((w1.setCell ⟨B,0,none⟩ x').setCell ⟨B,1,none⟩ y').setCell ⟨B,2,none⟩ z').cell? ⟨B,2,none⟩=some z':=by
 have e:=heap_set_eq (j:=2) (heap_set_eq (j:=1) (heap_set_eq (j:=0) h x') y') z';exact ⟨cell_at e rfl,cell_at e rfl,cell_at e rfl⟩
theorem nodeof_no (b r:Nat) (K:KV) (T:List DM) (q:KPtr) (w:World) (h:KerMem w b K T q) (hr:r<=4294967295) (ht:K.A.tk r=false) :
  Calls Tryz.prog 48 #[.pointer (some ⟨b,0,none⟩),.int .u32 r] w fun e w'=>e=.returned (.tuple #[.agg #[.int .i64 0,.int .u32 0,.int .u32 0],.int .i64 3])/\Upd [] w w':=by
 have HM:=Lib.hid h;have HT:=Lib.hid ht;have hb:=heap_lt h.blk;clear h ht
 go_enter Tryz.func48,Tryz.ntmps48
 go_wp2_with fail;refine (live_spec b r K T q _ (HM.out.upd ((Upd.refl [] w).alloc _) (by simp)) hr).mono ?_;rintro e w1 ⟨rfl,hu⟩;rw [HT.out];have hbx:w1.heap[w.heap.size]?=some (.cells #[.int .i64 0,.int .u32 0,.int .u32 0] 116 (0,0)):=(hu.block w.heap.size (by simp) (by simp)).trans (heap_alloc_new w _);have b0:w1.cell? ⟨w.heap.size,0,none⟩=some (.int .i64 0):=cell_at hbx rfl;have b1:w1.cell? ⟨w.heap.size,1,none⟩=some (.int .u32 0):=cell_at hbx rfl;have b2:w1.cell? ⟨w.heap.size,2,none⟩=some (.int .u32 0):=cell_at hbx rfl;have f0:=frozen_at 0 hbx;have f1:=frozen_at 1 hbx;have f2:=frozen_at 2 hbx;have hbw:=heap_lt hbx;have HX:=Lib.hid hbx;have HU:Hid (Upd [] w w1):=((Upd.refl [] w).alloc _).trans (hu.mono (by simp));clear hu hbx;go_wp2_with fail;obtain ⟨r0,r1,r2⟩:=box3n HX.out (.int .i64 0) (.int .u32 0) (.int .u32 0);refine bodyPost_ret (v:=.tuple #[.agg #[.int .i64 0,.int .u32 0,.int .u32 0],.int .i64 3]) (by simp [results,Tryz.results48,go_sem,r0,r1,r2]) rfl ⟨rfl,?_⟩;exact ((HU.out.setCell (.inr (Nat.le_refl _)) _).setCell (.inr (Nat.le_refl _)) _).setCell (.inr (Nat.le_refl _)) _
theorem nodeof_yes (b r:Nat) (K:KV) (T:List DM) (q:KPtr) (p:PlaceV) (w:World) (h:KerMem w b K T q) (hr:r<=4294967295) (hp:K.A.list[r]?=some p) (hpt:p.taken=true) :
  Calls Tryz.prog 48 #[.pointer (some ⟨b,0,none⟩),.int .u32 r] w fun e w'=>e=.returned (.tuple #[.agg #[.int .i64 p.var,.int .u32 p.lo,.int .u32 p.hi],.int .i64 0])/\Upd [] w w':=by
 have HM:=Lib.hid h;have HT:Hid (K.A.tk r=true):=ArenaV.tk_iff.2 ⟨p,hp,hpt⟩;have HP:=Lib.hid (And.intro hp hpt);have hb:=heap_lt h.blk;clear h hp hpt
 go_enter Tryz.func48,Tryz.ntmps48
 go_wp2_with fail;refine (live_spec b r K T q _ (HM.out.upd ((Upd.refl [] w).alloc _) (by simp)) hr).mono ?_;rintro e w1 ⟨rfl,hu⟩;rw [HT.out];have HU1:Hid (Upd [] w w1):=((Upd.refl [] w).alloc _).trans (hu.mono (by simp));have hbx1:w1.heap[w.heap.size]?=some (.cells #[.int .i64 0,.int .u32 0,.int .u32 0] 116 (0,0)):=(hu.block w.heap.size (by simp) (by simp)).trans (heap_alloc_new w _);have HX1:=Lib.hid hbx1;clear hu hbx1;go_wp2_with fail;refine (node_spec b r K T q p _ (HM.out.upd HU1.out (by simp)) hr HP.out.1 HP.out.2).mono ?_;rintro e w2 ⟨rfl,hu⟩;have hbx:w2.heap[w.heap.size]?=some (.cells #[.int .i64 0,.int .u32 0,.int .u32 0] 116 (0,0)):=(hu.block w.heap.size (heap_lt HX1.out) (by simp)).trans HX1.out;have b0:w2.cell? ⟨w.heap.size,0,none⟩=some (.int .i64 0):=cell_at hbx rfl;have b1:w2.cell? ⟨w.heap.size,1,none⟩=some (.int .u32 0):=cell_at hbx rfl;have b2:w2.cell? ⟨w.heap.size,2,none⟩=some (.int .u32 0):=cell_at hbx rfl;have f0:=frozen_at 0 hbx;have f1:=frozen_at 1 hbx;have f2:=frozen_at 2 hbx;have hbw:=heap_lt hbx;have HX:=Lib.hid hbx;have HU:=Lib.hid (HU1.out.trans hu);clear hu hbx;go_wp2_with fail;obtain ⟨r0,r1,r2⟩:=box3n HX.out (.int .i64 p.var) (.int .u32 p.lo) (.int .u32 p.hi);refine bodyPost_ret (v:=.tuple #[.agg #[.int .i64 p.var,.int .u32 p.lo,.int .u32 p.hi],.int .i64 0]) (by simp [results,Tryz.results48,go_sem,r0,r1,r2]) rfl ⟨rfl,?_⟩;exact ((HU.out.setCell (.inr (Nat.le_refl _)) _).setCell (.inr (Nat.le_refl _)) _).setCell (.inr (Nat.le_refl _)) _
theorem kfind_spec (b:Nat) (v:Int) (lo hi:Nat) (K:KV) (T:List DM) (q:KPtr) (w:World) (h:KerIn w b K T q) (h1:lo<=4294967295) (h2:hi<=4294967295) :
  Calls Tryz.prog 240 #[.pointer (some ⟨b,0,none⟩),.int .i64 v,.int .u32 lo,.int .u32 hi] w fun e w' =>
   Upd [] w w'/\((∃ r:Nat,K.fitsE v lo hi=0/\K.Has v lo hi r/\e=.returned (.tuple #[.int .u32 r,.bool true]))\/((K.fitsE v lo hi=0->lo≠hi/\∀ r,¬ K.At r v.toNat lo hi)/\e=.returned (.tuple #[.int .u32 0,.bool false]))):=by
 have HK:=Lib.hid h
 by_cases hf:K.fitsE v lo hi=0
 ·obtain ⟨n,rfl,hn,hl,hh,hlt⟩:=KV.fits0 hf
  have HF:=Lib.hid hf
  by_cases hlh:lo=hi
  ·subst hlh
   clear h hf hl hh hlt
   go_enter Tryz.func240,Tryz.ntmps240
   go_wp2_with fail;refine (fits_spec b n lo lo K T q _ HK.out.mem HK.out.ok.wf HK.out.ok.ord h1 h2).mono ?_;rintro e w1 ⟨rfl,hu⟩;rw [HF.out];have HU:=Lib.hid hu;clear hu;go_wp2_with fail;refine (seek_same b lo n w1).mono ?_;rintro e w2 ⟨rfl,rfl⟩;go_wp2_with fail;go_ret2;exact ⟨HU.out,.inl ⟨lo,HF.out,.inl ⟨rfl,rfl⟩,rfl⟩⟩
  ·have HLH:=Lib.hid hlh
   clear h hf hl hh hlt
   go_enter Tryz.func240,Tryz.ntmps240
   go_wp2_with fail;refine (fits_spec b n lo hi K T q _ HK.out.mem HK.out.ok.wf HK.out.ok.ord h1 h2).mono ?_;rintro e w1 ⟨rfl,hu⟩;rw [HF.out];have HU:=Lib.hid hu;clear hu;go_wp2_with fail;refine (seek_spec b n lo hi K T q _ (HK.out.mem.upd HU.out (by simp)) HK.out.ok.wf HK.out.ti hn h1 h2 hlh).mono ?_;rintro e w2 ⟨hu2,hr⟩;have HU2:=Lib.hid (HU.out.trans hu2);clear hu2
   rcases hr with ⟨r,rfl,ha⟩ | ⟨rfl,hno⟩
   ·have HA:=Lib.hid ha
    clear ha;go_wp2_with fail;go_ret2;exact ⟨HU2.out,.inl ⟨r,HF.out,.inr ⟨HLH.out,by simpa using HA.out⟩,rfl⟩⟩
   ·have HNO:=Lib.hid hno
    clear hno;go_wp2_with fail;go_ret2;exact ⟨HU2.out,.inr ⟨fun _=>⟨HLH.out,by simpa using HNO.out⟩,rfl⟩⟩
 ·have HC:=fits_spec b v lo hi K T q w h.mem h.ok.wf h.ok.ord h1 h2
  have HE:Hid (K.fitsE v lo hi≠0):=hf;generalize hc:K.fitsE v lo hi=c at hf HC HE;have HC:=Lib.hid HC
  have hf2:(c != 0)=true:=by simpa using hf
  clear h hc
  go_enter Tryz.func240,Tryz.ntmps240
  go_wp2_with fail;refine HC.out.mono ?_;rintro e w1 ⟨rfl,hu⟩;have HU:=Lib.hid hu;clear hu;go_wp2_with fail;go_ret2;exact ⟨HU.out,.inr ⟨fun h=>absurd h HE.out,rfl⟩⟩
def KV.endTrail (K:KV):KV:={ K with trail:=[] }
theorem KV.Ok.dropped {K K1:KV} {r:Nat} (h:K.Ok) (hh:0<K.hold r) (hw:K1.Wf []) (hle:K1.Le (K.dropH r)) (hp:K1.Pos):K1.endTrail.Ok/\K.Dropped r K1.endTrail:=by
 have h2:=(h.wf.ht r hh).1;have e0:K1.Ext K:=⟨hle.nd,hle.pl.symm,hle.vr.symm,hle.od.symm,hle.lv.symm⟩;have ho:=e0.ord_down hw h.ord;refine ⟨⟨⟨hw.ok,hw.len,hw.ul,hw.tu,hw.ht,hw.hm,hw.eq,hw.pt,hw.cl,hw.vr,hw.vs⟩,hp,ho.same rfl rfl rfl rfl,by simp [KV.endTrail]⟩,⟨e0.nd,e0.pl,e0.vr,e0.od,e0.lv⟩,?_,rfl,hle.us⟩
 intro x
 have e1:K1.endTrail.hold x=(K.dropH r).hold x:=by show K1.holds.getD x 0=(K.dropH r).holds.getD x 0;rw [hle.hd]
 rw [e1,h.wf.dropH_hold hh]
 by_cases e:x=r
 ·subst e;simp [h2]
 ·simp [e]
theorem KV.dropH_pos {K:KV} (h:K.Pos) (r:Nat):(K.dropH r).Pos:=h
theorem KerMem.endTrail {w:World} {b:Nat} {K:KV} {T:List DM} {q:KPtr} (h:KerMem w b K T q) :
  ∃ q',KerMem (w.setCell ⟨b,7,none⟩ (.slice none 0 0)) b K.endTrail T q'/\∀ k,k∈q'.all b->k∈q.all b:=by
 refine ⟨{ q with tv:=.slice none 0 0 },h.noTrail,?_⟩
 intro k hk
 simp only [KPtr.mem,Value.ownBlock] at hk ⊢
 simp at hk
 rcases hk with hk | hk | hk | hk | hk | hk | hk <;> simp [hk]
theorem drop_spec (b r:Nat) (K:KV) (T:List DM) (q:KPtr) (w:World) (h:KerIn w b K T q) (hr:r<=4294967295) :
  Calls Tryz.prog 34 #[.pointer (some ⟨b,0,none⟩),.int .u32 r] w fun e w' =>
   ∃ (code:Int) (K':KV) (T':List DM) (q':KPtr),e=.returned (.int .i64 code)/\((code=3/\2<=r/\K.hold r=0/\K'=K)\/(code=0/\(2<=r->0<K.hold r)/\K.Dropped r K'))/\KerIn w' b K' T' q'/\Upd (q.all b) w w'/\Sub (q.all b) w (q'.all b):=by
 have HK:=Lib.hid h;have hhl:=h.ok.wf.ok.lp;have hhm:=h.ok.wf.ok.pm;have hul:=h.ok.wf.ul;have hlen:=h.ok.wf.len;have hm:=h.ok.wf.hm r
 have hsz:K.holds.length<=1048576:=by omega
 by_cases h2:2<=r
 ·have hd:(1:Int)<(r:Int):=by omega
  by_cases h0:K.hold r=0
  ·have H0:=Lib.hid h0
   clear h
   go_enter Tryz.func34,Tryz.ntmps34
   go_wp2_with fail;refine (held_spec b r K T q w HK.out.mem hsz hm hr).mono ?_;rintro e w1 ⟨rfl,rfl⟩;rw [H0.out];go_wp2_with fail;go_ret;exact ⟨3,K,T,q,rfl,.inl ⟨rfl,h2,H0.out,rfl⟩,HK.out,Upd.refl _ _,Sub.refl _ _⟩
  ·obtain ⟨ht2,ht⟩:=h.ok.wf.ht r (by omega)
   have hl:=h.ok.wf.tk_lt h2 ht;obtain ⟨gh,ch,hqh,c3,ch1,fh1,hgh⟩:=h.mem.holdCell hl.2.1;have hb:=h.mem.blk;have fb:=frozen_at 7 hb;have c7:w.cell? ⟨b,7,none⟩=some q.tv:=cell_at hb rfl
   have nbh:b≠gh:=by
    rintro rfl;have e1:=h.mem.oh b (by rw [hqh];rfl);have e2:=h.mem.ob;omega
   have hrl:(r:Int)<(K.holds.length:Int):=by omega
   have hne0:¬ ((K.hold r:Int)=0):=by omega
   have hne1:decide ((K.hold r:Int)=0)=false:=by simp;omega
   have H0:=Lib.hid (show 0<K.hold r by omega);have HQ:=Lib.hid (And.intro hqh hgh);have hbm:b∈q.all b:=KPtr.mem.2 (.inl rfl)
   have e32:((K.hold r-1:Nat):Int)=(K.hold r:Int)-1:=by omega
   have HM1:=h.mem.setHold (n:=K.hold r-1) hqh hl.2.1;rw [e32] at HM1;have HM1:Hid (KerMem (w.setCell ⟨gh,r,none⟩ (.int .i32 ((K.hold r:Int)-1))) b (K.dropH r) T q):=HM1
   by_cases h1:K.hold r=1
   ·have H1:=Lib.hid h1
    have hw1:=h.ok.wf.dropH (r:=r) (by omega);rw [if_pos h1] at hw1;have HW1:=Lib.hid hw1;rw [h1] at ch1 hne0 hne1 HM1;clear h hb hqh hgh hw1 h0 h1 e32
    go_enter Tryz.func34,Tryz.ntmps34
    go_wp2_with fail;refine (held_spec b r K T q w HK.out.mem hsz hm hr).mono ?_;rintro e w1 ⟨rfl,rfl⟩;rw [H1.out];go_wp2_with fail;refine (release_spec b r (K.dropH r) [] T q _ HM1.out HW1.out (HK.out.ti.same rfl rfl) (by simp) hr).mono ?_;rintro e w2 ⟨rfl,K1,T1,q1,hR⟩;obtain ⟨q2,m2,s2⟩:=hR.mem.endTrail;have hb2:=hR.mem.blk;have fb2:=frozen_at 7 hb2;have c72:w2.cell? ⟨b,7,none⟩=some q1.tv:=cell_at hb2 rfl
    have HE:Hid (K.Dropped r K1.endTrail/\KerIn (w2.setCell ⟨b,7,none⟩ (.slice none 0 0)) b K1.endTrail T1 q2/\Upd (q.all b) w1 (w2.setCell ⟨b,7,none⟩ (.slice none 0 0))/\Sub (q.all b) w1 (q2.all b)):=by
     have hok:=HK.out.ok.dropped H0.out (by simpa using hR.wf) hR.le (hR.pos (KV.dropH_pos HK.out.ok.pos r))
     have hs:Sub (q.all b) w1 (q1.all b):=by
      intro k hk
      rcases hR.sub k hk with h | h
      ·exact .inl h
      ·right;simpa [World.setCell] using h
     refine ⟨hok.2,⟨m2,hR.ti.same rfl rfl,hok.1⟩,?_,fun k hk=>hs k (s2 k hk)⟩;have u1:Upd (q.all b) w1 (w1.setCell ⟨gh,r,none⟩ (.int .i32 (1-1))):=(Upd.refl _ _).setCell (p:=⟨gh,r,none⟩) (.inl HQ.out.2) _;exact (u1.trans hR.up).setCell (p:=⟨b,7,none⟩) (.inl hbm) _
    clear hR m2 s2 hb2;go_wp2_with fail;go_ret;obtain ⟨a1,a2,a3,a4⟩:=HE.out;exact ⟨0,_,_,_,rfl,.inr ⟨rfl,fun _=>H0.out,a1⟩,a2,a3,a4⟩
   ·have hw1:=h.ok.wf.dropH (r:=r) (by omega)
    rw [if_neg h1] at hw1;have HW1:=Lib.hid hw1
    have hne2:¬ ((K.hold r:Int)-1=0):=by omega
    clear h hb hqh hgh hw1 h0 e32
    go_enter Tryz.func34,Tryz.ntmps34
    go_wp2_with fail;refine (held_spec b r K T q w HK.out.mem hsz hm hr).mono ?_;rintro e w1 ⟨rfl,rfl⟩;go_wp2_with fail;go_ret;obtain ⟨q2,m2,s2⟩:=HM1.out.endTrail;have hok:=HK.out.ok.dropped H0.out HW1.out (.refl _) (KV.dropH_pos HK.out.ok.pos r);exact ⟨0,_,T,q2,rfl,.inr ⟨rfl,fun _=>H0.out,hok.2⟩,⟨m2,HK.out.ti.same rfl rfl,hok.1⟩,((Upd.refl _ _).setCell (p:=⟨gh,r,none⟩) (.inl HQ.out.2) _).setCell (p:=⟨b,7,none⟩) (.inl hbm) _,Sub.of_old s2⟩
 ·have hd:decide ((1:Int)<(r:Int))=false:=by simp;omega
  have hd2:decide (1<r)=false:=by simp;omega
  have hb:=h.mem.blk;have fb:=frozen_at 7 hb;have c7:w.cell? ⟨b,7,none⟩=some q.tv:=cell_at hb rfl;have hbm:b∈q.all b:=KPtr.mem.2 (.inl rfl);clear h hb
  go_enter Tryz.func34,Tryz.ntmps34
  go_wp2_with fail;go_ret;obtain ⟨q2,m2,s2⟩:=HK.out.mem.endTrail;have hok:=HK.out.ok;refine ⟨0,K.endTrail,T,q2,rfl,.inr ⟨rfl,fun h=>absurd h h2,⟨⟨fun _ _ h _=>h,rfl,rfl,rfl,rfl⟩,fun x=>?_,rfl,Nat.le_refl _⟩⟩,⟨m2,HK.out.ti.same rfl rfl,⟨⟨hok.wf.ok,hok.wf.len,hok.wf.ul,hok.wf.tu,hok.wf.ht,hok.wf.hm,hok.wf.eq,hok.wf.pt,hok.wf.cl,hok.wf.vr,hok.wf.vs⟩,hok.pos,hok.ord.same rfl rfl rfl rfl,by simp [KV.endTrail]⟩⟩,(Upd.refl _ _).setCell (p:=⟨b,7,none⟩) (.inl hbm) _,Sub.of_old s2⟩
  rw [if_neg (by intro e;exact h2 e.2)];rfl
theorem clone_spec (sv:Value) (l:List Nat) (w:World) (h:w.ownsRow 0 3 1 sv l.length (flatN l)) (h1:1<=l.length) (hn:l.length<=1048576) :
  Calls Tryz.prog 86 #[sv] w fun e w'=>∃ (g cap:Nat),e=.returned (.slice (some ⟨g,0,none⟩) l.length cap)/\w'.ownsRow w.heap.size 3 1 (.slice (some ⟨g,0,none⟩) l.length cap) l.length (flatN l)/\Upd [] w w':=by
 obtain ⟨fa,fc,rfl,_⟩:=row_nil_len h;obtain ⟨g0,rfl⟩:=row_some h (by omega);obtain ⟨i,hi0,hz0,hz1',hz2⟩:=info_parts Tryz.infoIntI;have HI:=Lib.hid hi0;have HZ:=Lib.hid hz0;have HZ1:=Lib.hid hz1';have HZ2:=Lib.hid hz2;have HR:=Lib.hid h;have HCS:Hid (∀ j u,(flatN l)[j]?=some u->w.cell? ((⟨g0,0,none⟩ : Addr).add j)=some u):=h.cells rfl
 have HC2:Hid (∀ u,u∈flatN l->u.oneCell'=true):=by
  intro u hu
  obtain ⟨a,_,rfl⟩:=List.mem_map.1 hu;rfl
 have hlen:(flatN l).length=l.length*1:=by simp [flatN]
 generalize hll:l.length=n at *;clear h hi0 hz0 hz1' hz2
 go_enter Tryz.func86,Tryz.ntmps86
 have hbin:∀ (w:World),(binOp BinOp.eql 23 (Value.slice (some ⟨g0,0,none⟩) n fc) (Value.slice none 0 0)).run Tryz.prog w=.ok (.bool false) w:=fun w=>by kernel_rfl
 have HL:Hid ((w.alloc (.cells #[] 3 (0,0))).ownsRow w.heap.size 3 1 (.slice (some ⟨w.heap.size,0,none⟩) 0 0) 0 []):=World.ownsRow_lit w #[] 0 (Nat.le_refl _) (by unfold maxLen;omega) (by simp)
 have HB:Hid (∀ j u,(flatN l)[j]?=some u->(w.alloc (.cells #[] 3 (0,0))).cell? ((⟨g0,0,none⟩ : Addr).add j)=some u):=by
  intro j u hu
  have:=HCS.out j u hu;rw [<- this];exact World.cell?_of_block (heap_alloc_old w _ (World.block_lt_of_cell? _ _ this))
 have hbs:w.heap.size<=(w.alloc (.cells #[] 3 (0,0))).heap.size:=by rw [World.size_alloc];omega
 go_wp2_with (at_builtin;go_must (refine wpList_append_lies _ rfl (.tmp 5) (.tmp 6) 23 rfl w.heap.size 3 i _ 1 8 Tryz.underlying23 HI.out HZ.out HZ1.out HZ2.out (by rfl) (by decide) _ 0 [] rfl HL.out ⟨g0,0,none⟩ n fc (flatN l) rfl hlen ?c1 HC2.out (by omega) (by unfold maxLen;omega) (by omega) hbs _ rfl ?_))
 case c1=>exact HB.out
 intro g cap w' hown hgr hat hlt
 have HE:Hid (w'.ownsRow w.heap.size 3 1 (.slice (some ⟨g,0,none⟩) n cap) n (flatN l)/\Upd [] w w'):=by
  refine ⟨by simpa using hown,((Upd.refl [] w).alloc _).grown hgr fun k hk=>?_⟩
  simp [Value.ownBlock] at hk
  right;omega
 clear hown hgr hat hlt;go_wp2_with fail;go_ret;exact ⟨g,cap,rfl,HE.out⟩
theorem order_spec (b:Nat) (K:KV) (T:List DM) (q:KPtr) (w:World) (h:KerMem w b K T q) (h1:1<=K.order.length) (hn:K.order.length<=1048576) :
  Calls Tryz.prog 43 #[.pointer (some ⟨b,0,none⟩)] w fun e w'=>∃ (g cap:Nat),e=.returned (.slice (some ⟨g,0,none⟩) K.order.length cap)/\w'.ownsRow w.heap.size 3 1 (.slice (some ⟨g,0,none⟩) K.order.length cap) K.order.length (flatN K.order)/\Upd [] w w':=by
 have c5:w.cell? ⟨b,5,none⟩=some q.ov:=cell_at h.blk rfl;have HO:=Lib.hid h.os;clear h
 go_enter Tryz.func43,Tryz.ntmps43
 go_wp2_with fail;refine (clone_spec q.ov K.order w HO.out h1 hn).mono ?_;rintro e w1 ⟨g,cap,rfl,ho,hu⟩;have HE:=Lib.hid (And.intro ho hu);clear ho hu;go_wp2_with fail;go_ret;exact ⟨g,cap,rfl,HE.out⟩
def KV.new (n m:Nat):KV:=⟨ArenaV.new m,[],[],n,List.range n,List.range n,[]⟩
theorem KV.new_ok {n m:Nat} (h1:1<=n) (hn:n<=64) (h2:2<=m) (hm:m<=1048576):(KV.new n m).Ok:=by
 have hA:=ArenaV.new_ok h2 hm
 have no:∀ (r:Nat) (p:PlaceV),2<=r->(KV.new n m).A.list[r]?=some p->False:=by
  intro r p hr hp
  have:=(List.getElem?_eq_some_iff.1 hp).1
  simp [KV.new,ArenaV.new] at this
  omega
 have notk:∀ r,2<=r->(KV.new n m).A.tk r=true->False:=fun r hr ht=>by
  obtain ⟨p,hp,_⟩:=ArenaV.tk_iff.1 ht;exact no r p hr hp
 have hold0:∀ r,(KV.new n m).hold r=0:=fun r=>by simp [KV.hold,KV.new]
 have hlev:∀ v,v<n->(KV.new n m).lev v=v:=fun v hv=>by simp [KV.lev,KV.new,hv]
 have hord:∀ v,v<n->(KV.new n m).order.getD v 0=v:=fun v hv=>by simp [KV.new,hv]
 refine ⟨⟨hA,rfl,by simp [KV.new],fun r h ht=>(notk r h ht).elim,fun r h=>by rw [hold0] at h;omega,fun r=>by rw [hold0];omega,fun r h ht=>(notk r h ht).elim,by simp,fun q p h hp _=>(no q p h hp).elim,fun q p h hp _=>(no q p h hp).elim,h1,hn⟩,
  fun r h ht=>(notk r h ht).elim,⟨⟨by simp [KV.new],by simp [KV.new],?_,?_⟩,fun q p h hp _=>(no q p h hp).elim,fun q p h hp _=>(no q p h hp).elim⟩,by simp [KV.new]⟩
 ·intro v hv
  rw [hlev v hv];exact ⟨hv,hord v hv⟩
 ·intro v hv
  rw [hord v hv];exact ⟨hv,hlev v hv⟩
theorem TInv.new (n m:Nat):TInv (List.replicate n (.map [])) (KV.new n m) []:=by
 refine ⟨by simp [KV.new],?_,?_,?_⟩
 ·intro v D k hD hk
  have:D=.map []:=(List.mem_replicate.1 (List.mem_of_getElem? hD)).2;subst this
  simp [Maps.has] at hk
 ·intro r p D hr hp
  have:=(List.getElem?_eq_some_iff.1 hp).1
  simp [KV.new,ArenaV.new] at this
  omega
 ·intro D hD
  rw [(List.mem_replicate.1 hD).2];exact isMap_empty
theorem newStore_spec (m t:Nat) (w:World) (h2:2<=m) (hm:m<=1048576) :
  Calls Tryz.prog 85 #[.int .i64 m,.pointer (some ⟨t,0,none⟩)] w fun e w'=>∃ a F,e=.returned (.tuple #[.agg #[.pointer (some ⟨a,0,none⟩),.pointer (some ⟨t,0,none⟩),.slice none 0 0,.slice none 0 0],.int .i64 0]) /\
   ArenaAt w' a (ArenaV.new m) F/\Upd [] w w'/\Sub [] w F:=by
 go_enter Tryz.func85,Tryz.ntmps85
 go_wp2_with fail;refine (new_spec m _ h2 hm).mono ?_;rintro e w1 ⟨a,F,rfl,ha,hu,hs⟩;have hbx:w1.heap[w.heap.size]?=some (.cells #[.pointer none,.pointer none,.slice none 0 0,.slice none 0 0] 167 (0,0)):=(hu.block w.heap.size (by simp) (by simp)).trans (heap_alloc_new w _);have b0:w1.cell? ⟨w.heap.size,0,none⟩=some (.pointer none):=cell_at hbx rfl;have b1:w1.cell? ⟨w.heap.size,1,none⟩=some (.pointer none):=cell_at hbx rfl;have b2:w1.cell? ⟨w.heap.size,2,none⟩=some (.slice none 0 0):=cell_at hbx rfl;have b3:w1.cell? ⟨w.heap.size,3,none⟩=some (.slice none 0 0):=cell_at hbx rfl;have f0:=frozen_at 0 hbx;have f1:=frozen_at 1 hbx;have f2:=frozen_at 2 hbx;have f3:=frozen_at 3 hbx;have HX:=Lib.hid hbx;have HU:Hid (Upd [] w w1):=((Upd.refl [] w).alloc _).trans (hu.mono (by simp))
 have HA:Hid (∀ w2,Upd [w.heap.size] w1 w2->ArenaAt w2 a (ArenaV.new m) F):=fun w2 u=>ha.upd u (fun k hk hm=>by
  simp at hm
  have:=hs k hk
  simp at this
  omega)
 have HS:Hid (Sub [] w F):=fun k hk=>by
  have:=hs k hk
  simp at this
  right;omega
 clear hu hbx ha hs;go_wp2_with fail;have e:=heap_set_eq (j:=3) (heap_set_eq (j:=2) (heap_set_eq (j:=1) (heap_set_eq (j:=0) HX.out (.pointer (some ⟨a,0,none⟩))) (.pointer (some ⟨t,0,none⟩))) (.slice none 0 0)) (.slice none 0 0);have r0:=cell_at (j:=0) e rfl;have r1:=cell_at (j:=1) e rfl;have r2:=cell_at (j:=2) e rfl;have r3:=cell_at (j:=3) e rfl;refine bodyPost_ret (v:=.tuple #[.agg #[.pointer (some ⟨a,0,none⟩),.pointer (some ⟨t,0,none⟩),.slice none 0 0,.slice none 0 0],.int .i64 0]) (by simp [results,Tryz.results85,go_sem,r0,r1,r2,r3]) rfl ⟨a,F,rfl,HA.out _ ?_,?_,HS.out⟩
 ·exact ((((Upd.refl _ w1).setCell (.inl (by simp)) _).setCell (.inl (by simp)) _).setCell (.inl (by simp)) _).setCell (.inl (by simp)) _
 ·exact (((HU.out.setCell (.inr (Nat.le_refl _)) _).setCell (.inr (Nat.le_refl _)) _).setCell (.inr (Nat.le_refl _)) _).setCell (.inr (Nat.le_refl _)) _
theorem knew_end {n m g tb a g2 cap2:Nat} {w w1 w2 w3 w5:World} {FT FA:List Nat} (h1:1<=n) (hn:n<=64) (h2:2<=m) (hm:m<=1048576)
  (ho:w1.ownsRow w.heap.size 3 1 (.slice (some ⟨g,0,none⟩) n n) n (flatN (List.range n))) (u1:Upd [] w w1) (hgl:w.heap.size<=g/\g<w1.heap.size)
  (ht:TabAt w2 tb (List.replicate n (.map [])) FT) (u2:Upd [] w1 w2) (s2:Sub [] w1 FT) (ha:ArenaAt w3 a (ArenaV.new m) FA) (u3:Upd [] w2 w3) (s3:Sub [] w2 FA)
  (u5:Upd [] w3 w5) (ho2:w5.ownsRow (w3.heap.size+1) 3 1 (.slice (some ⟨g2,0,none⟩) n cap2) n (flatN (List.range n))) :
  KerIn (w5.alloc (.cells #[.pointer (some ⟨a,0,none⟩),.pointer (some ⟨tb,0,none⟩),.slice none 0 0,.slice none 0 0,.int .i64 n,.slice (some ⟨g,0,none⟩) n n,.slice (some ⟨g2,0,none⟩) n cap2,.slice none 0 0] 172)) w5.heap.size (KV.new n m) (List.replicate n (.map []))
   ⟨a,tb,.slice none 0 0,.slice none 0 0,.slice (some ⟨g,0,none⟩) n n,.slice (some ⟨g2,0,none⟩) n cap2,.slice none 0 0,FA,FT,fun k=>if k<w1.heap.size then 5 else if k<w2.heap.size then 2 else if k<w3.heap.size then 1 else if k<w5.heap.size then 6 else 0⟩ /\
  Upd [] w (w5.alloc (.cells #[.pointer (some ⟨a,0,none⟩),.pointer (some ⟨tb,0,none⟩),.slice none 0 0,.slice none 0 0,.int .i64 n,.slice (some ⟨g,0,none⟩) n n,.slice (some ⟨g2,0,none⟩) n cap2,.slice none 0 0] 172)) /\
  Sub [] w ((⟨a,tb,.slice none 0 0,.slice none 0 0,.slice (some ⟨g,0,none⟩) n n,.slice (some ⟨g2,0,none⟩) n cap2,.slice none 0 0,FA,FT,fun k=>if k<w1.heap.size then 5 else if k<w2.heap.size then 2 else if k<w3.heap.size then 1 else if k<w5.heap.size then 6 else 0⟩ : KPtr).all w5.heap.size):=by
 have z1:=u1.size;have z2:=u2.size;have z3:=u3.size;have z5:=u5.size;have hg2:=ho2.lt g2 rfl;have lT:=ht.lt;have lA:=ha.lt
 have sT:∀ k,k∈FT->w1.heap.size<=k:=fun k hk=>(s2 k hk).elim (fun h=>by simp at h) id
 have sA:∀ k,k∈FA->w2.heap.size<=k:=fun k hk=>(s3 k hk).elim (fun h=>by simp at h) id
 have U:=(u5.alloc (.cells #[.pointer (some ⟨a,0,none⟩),.pointer (some ⟨tb,0,none⟩),.slice none 0 0,.slice none 0 0,.int .i64 n,.slice (some ⟨g,0,none⟩) n n,.slice (some ⟨g2,0,none⟩) n cap2,.slice none 0 0] 172));refine ⟨⟨⟨heap_alloc_new w5 _,ha.upd U (by simp),ht.upd (u3.trans U) (by simp),World.ownsRow_nil _ _ _ _,World.ownsRow_nil _ _ _ _,?_,?_,World.ownsRow_nil _ _ _ _,?_,?_,?_,?_,?_,?_,?_,?_⟩,TInv.new n m,KV.new_ok h1 hn h2 hm⟩,?_,?_⟩
 ·have e:(KV.new n m).order.length=n:=by simp [KV.new]
  rw [e]
  refine row_keep (row_base ho (Nat.zero_le _)) fun k hk=>?_
  simp [Value.ownBlock] at hk;subst hk
  rw [U.block _ (by omega) (by simp),u3.block _ (by omega) (by simp),u2.block _ hgl.2 (by simp)]
 ·have e:(KV.new n m).level.length=n:=by simp [KV.new]
  rw [e];exact (row_base ho2 (Nat.zero_le _)).alloc _
 ·show (if _ then _ else _)=0
  rw [if_neg (by omega),if_neg (by omega),if_neg (by omega),if_neg (by omega)]
 ·intro k hk
  have:=sA k hk;have:=lA k hk
  show (if _ then _ else _)=1
  rw [if_neg (by omega),if_neg (by omega),if_pos (by omega)]
 ·intro k hk
  have:=sT k hk;have:=lT k hk
  show (if _ then _ else _)=2
  rw [if_neg (by omega),if_pos (by omega)]
 ·intro k hk;simp [Value.ownBlock] at hk
 ·intro k hk;simp [Value.ownBlock] at hk
 ·intro k hk
  simp [Value.ownBlock] at hk;subst hk
  show (if _ then _ else _)=5
  rw [if_pos hgl.2]
 ·intro k hk
  simp [Value.ownBlock] at hk;subst hk
  show (if _ then _ else _)=6
  rw [if_neg (by omega),if_neg (by omega),if_neg (by omega),if_pos hg2.2]
 ·intro k hk;simp [Value.ownBlock] at hk
 ·exact u1.trans (u2.trans (u3.trans U))
 ·intro k hk
  right
  simp only [KPtr.mem,Value.ownBlock] at hk
  simp at hk
  rcases hk with rfl | hk | hk | hk | hk
  ·omega
  ·have:=sA k hk;omega
  ·have:=sT k hk;omega
  ·omega
  ·omega
theorem knew_spec (n m:Nat) (w:World) (h1:1<=n) (hn:n<=64) (h2:2<=m) (hm:m<=1048576) :
  Calls Tryz.prog 28 #[.int .i64 n,.int .i64 m] w fun e w'=>∃ (b:Nat) (T:List DM) (q:KPtr),e=.returned (.tuple #[.pointer (some ⟨b,0,none⟩),.int .i64 0])/\KerIn w' b (KV.new n m) T q/\Upd [] w w'/\Sub [] w (q.all b):=by
 have hd1:decide ((n:Int)<1)=false:=by simp;omega
 have hd2:decide ((m:Int)<2)=false:=by simp;omega
 have hd3:decide ((1048576:Int)<(m:Int))=false:=by simp;omega
 have hd4:decide (1048576<m)=false:=by simp;omega
 have hd5:decide (m<2)=false:=by simp;omega
 have hd6:decide (n<1)=false:=by simp;omega
 go_enter Tryz.func28,Tryz.ntmps28
 go_wp2_with fail;refine (ident_ok n w hn).mono ?_;rintro e w1 ⟨g,rfl,ho,hu⟩;have hgl:=ho.lt g rfl;have HO:=Lib.hid (And.intro ho hu);clear ho hu;go_wp2_with fail;refine (tnew_spec n _ h1 hn).mono ?_;rintro e w2 ⟨tb,FT,rfl,ht,hu2,hs2⟩;have HT:=Lib.hid (And.intro ht (And.intro hu2 hs2));clear ht hu2 hs2;go_wp2_with fail;refine (newStore_spec m tb _ h2 hm).mono ?_;rintro e w3 ⟨a,FA,rfl,ha,hu3,hs3⟩;have HA:=Lib.hid (And.intro ha (And.intro hu3 hs3));clear ha hu3 hs3;have HN:=heap_alloc_new w3 (.cells #[.pointer (some ⟨a,0,none⟩),.pointer (some ⟨tb,0,none⟩),.slice none 0 0,.slice none 0 0] 167)
 have HCL:Hid (Calls Tryz.prog 86 #[.slice (some ⟨g,0,none⟩) n n] (w3.alloc (.cells #[.pointer (some ⟨a,0,none⟩),.pointer (some ⟨tb,0,none⟩),.slice none 0 0,.slice none 0 0] 167)).drew fun e w' =>
   ∃ (g2 cap:Nat),e=.returned (.slice (some ⟨g2,0,none⟩) n cap)/\w'.ownsRow (w3.heap.size+1) 3 1 (.slice (some ⟨g2,0,none⟩) n cap) n (flatN (List.range n))/\Upd [] (w3.alloc (.cells #[.pointer (some ⟨a,0,none⟩),.pointer (some ⟨tb,0,none⟩),.slice none 0 0,.slice none 0 0] 167)).drew w'):=by
  have hs2:=HT.out.2.1;have hs3:=HA.out.2.1
  have hrow:(w3.alloc (.cells #[.pointer (some ⟨a,0,none⟩),.pointer (some ⟨tb,0,none⟩),.slice none 0 0,.slice none 0 0] 167)).drew.ownsRow 0 3 1 (.slice (some ⟨g,0,none⟩) n n) (List.range n).length (flatN (List.range n)):=by
   rw [List.length_range];refine row_drew ((row_keep (row_base HO.out.1 (Nat.zero_le _)) fun k hk=>?_).alloc _)
   simp [Value.ownBlock] at hk;subst hk
   rw [hs3.block _ (by have:=hs2.size;omega) (by simp),hs2.block _ hgl.2 (by simp)]
  refine (clone_spec _ (List.range n) _ hrow (by simpa using h1) (by simp;omega)).mono ?_;rintro e w' ⟨g2,cap,rfl,ho,hu⟩;refine ⟨g2,cap,by rw [List.length_range],?_,hu⟩;rw [List.length_range] at ho;refine row_base ho ?_
  show _<=(w3.alloc _).heap.size
  rw [World.size_alloc];omega
 obtain ⟨x0,x1,x2,x3⟩ : (w3.alloc (.cells #[.pointer (some ⟨a,0,none⟩),.pointer (some ⟨tb,0,none⟩),.slice none 0 0,.slice none 0 0] 167)).drew.cell? ⟨w3.heap.size,0,none⟩=some (.pointer (some ⟨a,0,none⟩)) /\
   (w3.alloc (.cells #[.pointer (some ⟨a,0,none⟩),.pointer (some ⟨tb,0,none⟩),.slice none 0 0,.slice none 0 0] 167)).drew.cell? ⟨w3.heap.size,1,none⟩=some (.pointer (some ⟨tb,0,none⟩)) /\
   (w3.alloc (.cells #[.pointer (some ⟨a,0,none⟩),.pointer (some ⟨tb,0,none⟩),.slice none 0 0,.slice none 0 0] 167)).drew.cell? ⟨w3.heap.size,2,none⟩=some (.slice none 0 0) /\
   (w3.alloc (.cells #[.pointer (some ⟨a,0,none⟩),.pointer (some ⟨tb,0,none⟩),.slice none 0 0,.slice none 0 0] 167)).drew.cell? ⟨w3.heap.size,3,none⟩=some (.slice none 0 0):=⟨cell_at HN rfl,cell_at HN rfl,cell_at HN rfl,cell_at HN rfl⟩
 have HN:=Lib.hid HN;go_wp2_with fail
 go_region_held3 (fun w'=>w'.cell? ⟨w3.heap.size,0,none⟩=some (.pointer (some ⟨a,0,none⟩))/\w'.cell? ⟨w3.heap.size,1,none⟩=some (.pointer (some ⟨tb,0,none⟩))/\w'.cell? ⟨w3.heap.size,2,none⟩=some (.slice none 0 0)/\w'.cell? ⟨w3.heap.size,3,none⟩=some (.slice none 0 0)) (first | exact ⟨x0,x1,x2,x3⟩ | exact held4 HC.out.2 x0 x1 x2 x3 (by simp) (by simp) (by simp) (by simp) | exact held4 (HC.out.2.alloc _) x0 x1 x2 x3 (by simp) (by simp) (by simp) (by simp)) (first | (go_at_call 86;refine HCL.out.mono ?_;rintro e w5 ⟨g2,cap2,rfl,ho2,hu5⟩;have HC:=Lib.hid (And.intro ho2 hu5);clear ho2 hu5))
 have HE:=Lib.hid (knew_end h1 hn h2 hm HO.out.1 HO.out.2 hgl HT.out.1 HT.out.2.1 HT.out.2.2 HA.out.1 HA.out.2.1 HA.out.2.2 ((((Upd.refl [] w3).alloc _).drew).trans HC.out.2) HC.out.1);clear HC HCL HN HA HT HO;go_wp2_with fail;go_ret2;exact ⟨_,_,_,rfl,HE.out⟩
end Go.Proofs.YtfkopmhpppeheaaGreat
