import Derived.Test.YtfkopmhpppeheaaGreatPY19
import Derived.Test.YtfkopmhpppeheaaGreatPY2
import Derived.RangeFuncBox
import Derived.RangeFuncLeaves
import Derived.Shelf.Abstract
import Derived.WalkKit
import Derived.OwnWalkIn
import Derived.TacticsInMore
import Derived.LoopNIn
import Derived.LoopIn
import Derived.Maps.AppendAt
import Derived.Sort.MapsRangeIn
import Derived.RangeFuncNested
import Derived.RangeFuncBound
set_option maxRecDepth 100000
set_option maxHeartbeats 6400000
namespace Go.Proofs.YtfkopmhpppeheaaGreat
def LayR (K:KV) (S:((Nat->Bool)->Bool)->Prop) (t:(Nat->Bool)->Bool) (r:Nat) (code:Int) (K':KV):Prop :=
 (code=0/\K.Ext K'/\K'.A.tk r=true/\(∀ y,K'.den r y=t y)/\(∀ x,K'.hold x=K.hold x+if x=r/\2<=r then 1 else 0)/\∀ x,K'.A.tk x=true->K.A.tk x=false->S (K'.den x)) \/
 (code=9/\r=0/\K.Ext K'/\K'.Ext K/\(∀ x,K'.hold x=K.hold x)/\NoFitW K S)
theorem KV.Ext.subN {K K':KV} (h:K.Ext K') {t g:(Nat->Bool)->Bool}:K'.SubN t g↔K.SubN t g:=by
 constructor
 ·rintro ⟨l,a,e⟩;exact ⟨l,a,fun x=>by rw [e,h.mix]⟩
 ·rintro ⟨l,a,e⟩;exact ⟨l,a,fun x=>by rw [e,h.mix]⟩
theorem NoFitW.back {K K':KV} {S:((Nat->Bool)->Bool)->Prop} (hw:K'.Wf []) (e:K.Ext K') (hn:∀ x,K'.A.tk x=true->K.A.tk x=false->S (K'.den x)) (h:NoFitW K' S):NoFitW K S:=by
 obtain ⟨K1,g,k1,u1,ext,new,hus,hg,hx⟩:=h;refine ⟨K1,g,k1,u1,e.trans ext,fun x h1 h2=>?_,hus,hg,hx⟩
 cases h3:K'.A.tk x with
 | false=>exact new x h1 h3
 | true =>
  have e1:K1.den x=K'.den x:=funext fun y=>ext.den hw y h3
  rw [e1];exact hn x h3 h2
structure Split (K:KV) (t:TV) (v:Nat):Prop where
 ok:t.Ok
 n:t.n=K.vars
 vn:v<K.vars
 dep:depT t v=true
 no:∀ x,x<K.vars->K.lev x<K.lev v->depT t x=false
theorem Split.fn {K:KV} {t:TV} {v:Nat} (h:Split K t v) (y:Nat->Bool):t.fn y=if y v then (cofT t v true).fn y else (cofT t v false).fn y:=by
 rw [cofT_fn (by rw [h.n];exact h.vn),cofT_fn (by rw [h.n];exact h.vn)]
 cases hb:y v with
 | true=>rw [if_pos rfl];congr 1;rw [<- hb,upd_id]
 | false=>rw [if_neg (by simp)];congr 1;rw [<- hb,upd_id]
theorem cof_free {K:KV} {t:TV} {v:Nat} (h:Split K t v) (b:Bool) {x:Nat} (hx:x<K.vars) (hl:K.lev x<K.lev v\/x=v):¬ Hangs (cofT t v b).fn x:=by
 rintro ⟨y,hy⟩;refine hy ?_;rw [cofT_fn (by rw [h.n];exact h.vn),cofT_fn (by rw [h.n];exact h.vn)]
 by_cases e:x=v
 ·subst e
  congr 1
  funext u;simp only [upd];by_cases hu:u=x <;> simp [hu]
 ·have hno:=h.no x hx (hl.resolve_right e)
  have hnh:¬ Hangs t.fn x:=fun hh=>by
   have:=(depT_iff h.ok (by rw [h.n];exact hx)).2 hh
   rw [hno] at this;cases this
  have key:∀ (z:Nat->Bool) (c d:Bool),t.fn (upd z x c)=t.fn (upd z x d):=fun z c d=>by
   have e1:t.fn (upd z x true)=t.fn (upd z x false):=by
    by_cases e1:t.fn (upd z x true)=t.fn (upd z x false)
    ·exact e1
    ·exact absurd ⟨z,e1⟩ hnh
   cases c <;> cases d <;> first | rfl | exact e1 | exact e1.symm
  have sw:∀ c,upd (upd y x c) v b=upd (upd y v b) x c:=fun c=>by
   funext u;simp only [upd]
   by_cases h1:u=v
   ·subst h1;simp [Ne.symm e]
   ·simp [h1]
  rw [sw,sw];exact key _ _ _
theorem Split.below {K:KV} {t:TV} {v:Nat} (h:Split K t v) {K':KV} (e:K.Ext K') (hk:K'.Ok) (hu:K'.Uni) {r:Nat} {b:Bool} (ht:K'.A.tk r=true) (hd:∀ y,K'.den r y=(cofT t v b).fn y):K'.lev v<K'.dep r:=by
 by_cases h2:2<=r
 ·obtain ⟨u,hun,hud,hh,_⟩:=hk.node_hangs hu h2 ht
  have hf:K'.den r=(cofT t v b).fn:=funext hd;rw [hf] at hh;rw [hud]
  by_cases hlt:K'.lev v<K'.lev u
  ·exact hlt
  ·exfalso
   rw [e.vr] at hun;refine cof_free h b hun ?_ hh;rw [e.lev,e.lev] at hlt
   by_cases e1:K.lev u<K.lev v
   ·exact .inl e1
   ·right
    have p:=hk.ord.pm;exact p.inj (by rw [e.vr];exact hun) (by rw [e.vr];exact h.vn) (by rw [e.lev,e.lev];omega)
 ·rw [hk.wf.dep_const (by omega)]
  exact (hk.ord.pm.lo v (by rw [e.vr];exact h.vn)).1
theorem Split.ne {K:KV} {t:TV} {v:Nat} (h:Split K t v) {K':KV} {a b:Nat} (ha:∀ y,K'.den a y=(cofT t v false).fn y) (hb:∀ y,K'.den b y=(cofT t v true).fn y):a≠b:=by
 rintro rfl;obtain ⟨y,hy⟩:=(depT_iff h.ok (by rw [h.n];exact h.vn)).1 h.dep;refine hy ?_;have:=(ha y).symm.trans (hb y);rw [cofT_fn (by rw [h.n];exact h.vn),cofT_fn (by rw [h.n];exact h.vn)] at this;exact this.symm
theorem Split.sub {K:KV} {t:TV} {v:Nat} (h:Split K t v) (hp:K.Perm) {b:Bool} {g:(Nat->Bool)->Bool} (hg:K.SubN (cofT t v b).fn g):K.SubN t.fn g:=by
 obtain ⟨l,a,e⟩:=hg;have hlv:=(hp.lo v h.vn).1;refine ⟨max l (K.lev v+1),upd (fun u=>if K.lev u<K.lev v+1 then false else a u) v b,fun x=>?_⟩
 rw [e,<- free_above hp (g:=(cofT t v b).fn) (K.lev v+1) (by omega) (fun u hu hl=>cof_free h b hu (by
  by_cases e1:K.lev u<K.lev v
  ·exact .inl e1
  ·exact .inr (hp.inj hu h.vn (by omega)))) (fun _=>false),cofT_fn (by rw [h.n];exact h.vn)]
 refine TV.fn_same t fun u hu=>?_
 rw [h.n] at hu
 simp only [upd,KV.mix]
 by_cases e1:u=v
 ·subst e1;simp [hu];omega
 ·rw [if_neg e1]
  by_cases h1:K.lev u<K.lev v+1
  ·rw [if_pos ⟨hu,h1⟩,if_pos ⟨hu,by omega⟩,if_neg e1,if_pos h1]
  ·rw [if_neg fun k=>h1 k.2]
   by_cases h2:K.lev u<l
   ·rw [if_pos ⟨hu,h2⟩,if_pos ⟨hu,by omega⟩,if_neg e1,if_neg h1]
   ·rw [if_neg fun k=>h2 k.2,if_neg (by omega)]
theorem Split.nodep {K:KV} {t:TV} {v:Nat} (h:Split K t v) (hp:K.Perm) (b:Bool) {d:Nat} (hd:d+K.lev v+1=K.vars) {u:Nat} (hu:u<K.vars) (hl:K.lev u+d<K.vars):depT (cofT t v b) u=false:=by
 cases e:depT (cofT t v b) u with
 | false=>rfl
 | true =>
  exfalso
  refine cof_free h b hu ?_ ((depT_iff (cofT_ok h.ok v b) (by show u<t.n;rw [h.n];exact hu)).1 e)
  by_cases e1:K.lev u<K.lev v
  ·exact .inl e1
  ·exact .inr (hp.inj hu h.vn (by omega))
theorem lay_make {K K2 K3:KV} {t:TV} {v a b r:Nat} {code:Int} {S:((Nat->Bool)->Bool)->Prop} (h:Split K t v) (e2:K.Ext K2) (k2:K2.Ok) (u2:K2.Uni) (ta:K2.A.tk a=true) (tb:K2.A.tk b=true)
  (da:∀ y,K2.den a y=(cofT t v false).fn y) (db:∀ y,K2.den b y=(cofT t v true).fn y) (hh:∀ x,K2.hold x<65535) (hS:S t.fn) (hn:∀ x,K2.A.tk x=true->K.A.tk x=false->S (K2.den x)) (k3:K3.Ok) (M:MakeR K2 (v:Int) a b r code K3) :
  (code=0/\K2.Ext K3/\K3.A.tk r=true/\(∀ y,K3.den r y=t.fn y)/\(∀ x,K3.hold x=K2.hold x+if x=r/\2<=r then 1 else 0)/\∀ x,K3.A.tk x=true->K.A.tk x=false->S (K3.den x)) \/
  (code=9/\r=0/\K3=K2/\NoFitW K S):=by
 have la:=h.below e2 k2 u2 ta da;have lb:=h.below e2 k2 u2 tb db;have hne:=h.ne da db
 have hvn:v<K2.vars:=by rw [e2.vr];exact h.vn
 have hfit:K2.fitsE v a b=0:=by
  unfold KV.fitsE
  have hiv:K2.isVar (v:Int)=true:=by simp [KV.isVar];omega
  rw [if_neg (by rw [hiv];simp),if_neg (by rw [ta,tb];simp),if_neg];rintro ⟨_,h2⟩;refine h2 ?_
  rw [Int.toNat_natCast];omega
 have dn:∀ y,t.fn y=if y v then K2.den b y else K2.den a y:=fun y=>by rw [h.fn,da,db]
 cases M with
 | bad h0=>exact absurd hfit h0
 | @full r h0 hs hm=>have:=hh r;omega
 | @old r h0 hs hm =>
  left
  rcases hs with ⟨e,_⟩ | ⟨_,hat⟩
  ·exact absurd e hne
  ·rw [Int.toNat_natCast] at hat
   have ht:=hat.tk;have hkp:=(k2.kept ht hm).2;refine ⟨rfl,hkp.ext,by rw [hkp.A];exact ht,fun y=>?_,fun x=>by rw [hkp.hd];by_cases e:x=r/\2<=r <;> simp [e],fun x h1 h2=>?_⟩
   ·rw [hkp.ext.den k2.wf y ht,hat.den k2,dn]
   ·rw [hkp.A] at h1
    have e1:(K2.keepK r).den x=K2.den x:=funext fun y=>hkp.ext.den k2.wf y h1
    rw [e1];exact hn x h1 h2
 | nodes h0 hne' hno hus =>
  right
  simp only [Int.toNat_natCast] at hno
  refine ⟨rfl,rfl,rfl,K2,t.fn,k2,u2,e2,hn,hus,hS,fun x hx hd=>?_⟩;exact hno x (KV.node_unique k2 u2 hvn ta tb la lb hne hx fun y=>by rw [hd,dn])
 | @new r K' h0 hne' hno hm =>
  left;rw [Int.toNat_natCast] at hm
  have hdr:∀ y,K3.den r y=t.fn y:=fun y=>by
   have hat:K3.At r v a b:=⟨hm.two,_,hm.at_,rfl,rfl,rfl,rfl⟩;rw [hat.den k3,hm.ext.den k2.wf y ta,hm.ext.den k2.wf y tb,dn]
  refine ⟨rfl,hm.ext,by rw [hm.tk];simp,hdr,fun x=>?_,fun x h1 h2=>?_⟩
  ·rw [hm.hd]
   by_cases e:x=r
   ·subst e
    have h9:K2.hold x=0:=by
     by_cases h9:K2.hold x=0
     ·exact h9
     ·have:=(k2.wf.ht x (by omega)).2
      rw [hm.no] at this;cases this
    simp [hm.two,h9]
   ·simp [e]
  ·rw [hm.tk] at h1
   by_cases e:x=r
   ·subst e
    have e1:K3.den x=t.fn:=funext hdr
    rw [e1];exact hS
   ·simp [e] at h1
    have e1:K3.den x=K2.den x:=funext fun y=>hm.ext.den k2.wf y h1
    rw [e1];exact hn x h1 h2
theorem lay_end {K K3 K5:KV} {r:Nat} {S:((Nat->Bool)->Bool)->Prop} {t:(Nat->Bool)->Bool} (k0:K.Ok) (k5:K5.Ok) (e3:K.Ext K3) (e5:K5.Ext K3) (dr:∀ y,K3.den r y=t y) (hd:∀ x,K5.hold x=K.hold x+if x=r/\2<=r then 1 else 0)
  (hn:∀ x,K3.A.tk x=true->K.A.tk x=false->S (K3.den x)):LayR K S t r 0 K5:=by
 left
 have e:K.Ext K5:=ext_back k0 k5 e3 e5 fun x hx=>by rw [hd];omega
 have tr5:K5.A.tk r=true:=by
  by_cases h2:2<=r
  ·exact (k5.wf.ht r (by rw [hd];simp [h2])).2
  ·exact k5.tk_const (by omega)
 refine ⟨rfl,e,tr5,fun y=>?_,hd,fun x h1 h2=>?_⟩
 ·rw [<- e5.den k5.wf y tr5];exact dr y
 ·have h3:=e5.tk h1
  have e1:K3.den x=K5.den x:=funext fun y=>e5.den k5.wf y h1
  rw [<- e1];exact hn x h3 h2
theorem lay_bad {K K2 K5:KV} {S:((Nat->Bool)->Bool)->Prop} {t:(Nat->Bool)->Bool} (k0:K.Ok) (k5:K5.Ok) (e2:K.Ext K2) (e5:K5.Ext K2) (hd:∀ x,K5.hold x=K.hold x) (hno:NoFitW K S):LayR K S t 0 9 K5:=by
 right;exact ⟨rfl,rfl,ext_back k0 k5 e2 e5 fun x hx=>by rw [hd];exact hx,ext_back k5 k0 e5 e2 fun x hx=>by rw [<- hd];exact hx,hd,hno⟩
end Go.Proofs.YtfkopmhpppeheaaGreat
namespace Go.Proofs.YtfkopmhpppeheaaGreat
open Go.RowKit Go.Maps Go.ChangeMaps Go.WideShapes
structure Stp (F:List Nat) (w:World) (F':List Nat) (w':World):Prop where
 up:Upd F w w'
 sub:Sub F w F'
theorem Stp.trans {F F1 F2:List Nat} {w w1 w2:World} (h:Stp F w F1 w1) (k:Stp F1 w1 F2 w2):Stp F w F2 w2 :=
 ⟨h.up.then k.up h.sub,fun x hx=>(k.sub x hx).elim (h.sub x) fun h2=>.inr (Nat.le_trans h.up.size h2)⟩
theorem Stp.of0 {F:List Nat} {w w1:World} (h:Upd [] w w1):Stp F w F w1:=⟨h.mono (by simp),Sub.refl _ _⟩
structure LayQ (b:Nat) (K:KV) (F:List Nat) (S:((Nat->Bool)->Bool)->Prop) (t:TV) (w:World) (e:Ending) (w':World):Prop where
 ex:∃ (r:Nat) (code:Int) (K':KV) (F':List Nat),e=.returned (.tuple #[.int .u32 r,.int .i64 code])/\LayR K S t.fn r code K'/\KerAt w' b K' F'/\Upd F w w'/\Sub F w F'
theorem make_at (b:Nat) (v:Int) (lo hi:Nat) (K:KV) (F:List Nat) (w:World) (h:KerAt w b K F) (h1:lo<=4294967295) (h2:hi<=4294967295) :
  Calls Tryz.prog 137 #[.pointer (some ⟨b,0,none⟩),.int .i64 v,.int .u32 lo,.int .u32 hi] w fun e w' =>
   ∃ (r:Nat) (code:Int) (K':KV) (F':List Nat),e=.returned (.tuple #[.int .u32 r,.int .i64 code])/\MakeR K v lo hi r code K'/\KerAt w' b K' F'/\Upd F w w'/\Sub F w F':=by
 obtain ⟨T,q,hk,rfl⟩:=h;refine (make_spec b v lo hi K T q w hk h1 h2).mono ?_;rintro e w' ⟨r,code,K',T',q',rfl,hM,hk',hu,hs⟩;exact ⟨r,code,K',_,rfl,hM,⟨T',q',hk',rfl⟩,hu,hs⟩
theorem drop_at (b r:Nat) (K:KV) (F:List Nat) (w:World) (h:KerAt w b K F) (hr:r<=4294967295) (hh:2<=r->0<K.hold r) :
  Calls Tryz.prog 34 #[.pointer (some ⟨b,0,none⟩),.int .u32 r] w fun e w' =>
   ∃ (K':KV) (F':List Nat),e=.returned (.int .i64 0)/\K.Dropped r K'/\KerAt w' b K' F'/\Upd F w w'/\Sub F w F':=by
 obtain ⟨T,q,hk,rfl⟩:=h;refine (drop_spec b r K T q w hk hr).mono ?_;rintro e w' ⟨code,K',T',q',rfl,hM,hk',hu,hs⟩
 rcases hM with ⟨_,h2,h0,_⟩ | ⟨rfl,_,hD⟩
 ·have:=hh h2;omega
 ·exact ⟨K',_,rfl,hD,⟨T',q',hk',rfl⟩,hu,hs⟩
structure Same (K:KV) (M:MV):Prop where
 od:M.order=K.order
 n:M.n=K.vars
theorem Same.ext {K K':KV} {M:MV} (h:Same K M) (e:K.Ext K'):Same K' M:=⟨h.od.trans e.od.symm,h.n.trans e.vr.symm⟩
theorem find_before {o:List Nat} {f:Nat->Bool} {v:Nat} (h:o.find? f=some v):∃ i,o[i]?=some v/\f v=true/\∀ x,x∈o.take i->f x=false:=by
 induction o with
 | nil=>simp at h
 | cons a o ih =>
  rw [List.find?_cons] at h
  cases hf:f a with
  | true=>rw [hf] at h;simp at h;subst h;exact ⟨0,rfl,hf,by simp⟩
  | false =>
   rw [hf] at h;obtain ⟨i,h1,h2,h3⟩:=ih h;refine ⟨i+1,by simpa using h1,h2,fun x hx=>?_⟩;rw [List.take_succ_cons] at hx
   rcases List.mem_cons.1 hx with rfl | hx
   ·exact hf
   ·exact h3 x hx
theorem Same.split {K:KV} {M:MV} (h:Same K M) (hk:K.Ok) {t:TV} {v:Nat} (ht:t.Ok) (hn:t.n=M.n) (hv:M.top t=some v):Split K t v:=by
 obtain ⟨i,h1,h2,h3⟩:=find_before hv;rw [h.od] at h1 h3;have ho:=hk.ord.pm.at_order h1;exact ⟨ht,hn.trans h.n,ho.1,h2,fun x hx hl=>h3 x (hk.ord.pm.mem_take.2 ⟨hx,by omega⟩)⟩
theorem Same.const {K:KV} {M:MV} (h:Same K M) (hk:K.Ok) {t:TV} (ht:t.Ok) (hn:t.n=M.n) (hv:M.top t=none) (y:Nat->Bool):t.fn y=t.bit 0:=by
 have hno:∀ v,v<K.vars->K.lev v<K.vars->¬ Hangs t.fn v:=fun v hv' _ hh=>by
  have h1:=(depT_iff ht (by rw [hn,h.n];exact hv')).2 hh;have h2:=List.find?_eq_none.1 hv v (by rw [h.od];exact List.mem_of_getElem? (hk.ord.pm.order_at hv'));exact h2 h1
 have e:=free_above hk.ord.pm (g:=t.fn) K.vars (Nat.le_refl _) hno (fun _=>false) y;rw [<- e]
 have e0:∀ n,idx n (fun _=>false)=0:=fun n=>by
  induction n with
  | zero=>rfl
  | succ n ih=>simp [idx,ih]
 have e2:t.bit 0=t.fn (fun _=>false):=by unfold TV.fn;rw [e0]
 rw [e2]
 exact TV.fn_same t fun v hv'=>by
  simp only [KV.mix]
  rw [hn,h.n] at hv';rw [if_pos ⟨hv',(hk.ord.pm.lo v hv').1⟩]
theorem lay_spec (m b:Nat) (M:MV) (p:MPtr) (hf:M.Fit):∀ (d:Nat) (K:KV) (F Z:List Nat) (S:((Nat->Bool)->Bool)->Prop) (c:Value) (t:TV) (w:World),ModIn w m M p Z->KerAt w b K F->(∀ k,k∈Z->k<w.heap.size)->(∀ k,k∈F->k∈Z)->(∀ k,k∈F->k∉p.all m) ->
  Same K M->TIn w Z c t->t.n=M.n->(∀ v,v<K.vars->K.lev v+d<K.vars->depT t v=false)->d<=K.vars->(∀ x,K.hold x+2*d<65000)->(∀ g,K.SubN t.fn g->S g) ->
  Calls Tryz.prog 170 #[.pointer (some ⟨b,0,none⟩),.pointer (some ⟨m,0,none⟩),tabV t c] w fun e w'=>LayQ b K F S t w e w':=by
 intro d
 induction d using Nat.strongRecOn with
 | ind d ih =>
 intro K F Z S c t w hM hK hZ hFZ hFm hS0 ht htn hdep hd hhold hS
 obtain ⟨ta,tc,rfl,_⟩:=row_nil_len ht.row;have hTW:=ht;have HM:=Lib.hid hM;have HK:=Lib.hid hK;have HT:=Lib.hid ht
 have HZ:Hid (∀ x:World,Upd [] w x->∀ k,k∈Z->k<x.heap.size):=fun x u k hk=>Nat.lt_of_lt_of_le (hZ k hk) u.size
 have HU0:=Lib.hid ((Upd.refl [] w).alloc (.cells #[.int .i64 t.n,.slice ta t.ws.length tc] 122 (0,0)));have hb:=boxT w (.int .i64 t.n) (.slice ta t.ws.length tc)
 have HTP:Hid (∀ x:World,Upd [] w x->Calls Tryz.prog 221 #[.pointer (some ⟨m,0,none⟩),tabV t (.slice ta t.ws.length tc)] x fun e w'=>e=.returned (.int .i64 (topI (M.top t)))/\Upd [] x w'):=fun x u=>top_spec9 m M p Z _ t x (hM.keep0 u) (HZ.out x u) hf (ht.keep0 u) htn
 have HBT:Hid (∀ x:World,Upd [] w x->Calls Tryz.prog 135 #[tabV t (.slice ta t.ws.length tc),.int .i64 0] x fun e w'=>e=.returned (.bool (t.bit 0))/\Upd [] x w'):=fun x u=>tbit_spec Z _ t 0 x (ht.keep0 u) (Nat.two_pow_pos _)
 have HCH:Hid (∀ (x:World) (v:Nat),Upd [] w x->M.top t=some v->Calls Tryz.prog 222 #[.pointer (some ⟨m,0,none⟩),tabV t (.slice ta t.ws.length tc)] x fun e w'=>ChildQ t v x e w'):=fun x v u hv=>children_spec m M p Z _ t v x (hM.keep0 u) (HZ.out x u) hf (ht.keep0 u) htn hv
 have HNN:Hid (∀ (v:Nat) (b:Bool),(cofT t v b).n=t.n):=fun _ _=>rfl
 have HSS:=Lib.hid (And.intro hS0 (And.intro htn (And.intro hdep (And.intro hd (And.intro hhold (And.intro hS (And.intro hFZ hFm)))))));unfold tabV at HTP HBT HCH ⊢;generalize t.ws.length=W at *;generalize hn:t.n=n at *;have HN:=Lib.hid hn;obtain ⟨b0,b1⟩:=hb
 have HB:Hid (∀ x:World,Upd [] (w.alloc (.cells #[.int .i64 n,.slice ta W tc] 122 (0,0))) x->x.cell? ⟨w.heap.size,0,none⟩=some (.int .i64 n)/\x.cell? ⟨w.heap.size,1,none⟩=some (.slice ta W tc)):=fun x u=>boxT_keep u ⟨b0,b1⟩
 have HIH:=Lib.hid ih;clear hM hK hZ hFZ hFm hS0 ht htn hdep hd hhold hS hTW hn ih
 cases hv:M.top t with
 | none =>
  have HV:=Lib.hid hv;rw [hv] at HTP;clear hv
  have hlt:(topI none:Int)<0:=by decide
  generalize topI none=z at *
  have hd0:decide (z<0)=true:=by simpa using hlt
  cases hbit:t.bit 0 with
  | true =>
   have HBI:=Lib.hid hbit;rw [hbit] at HBT;clear hbit
   go_enter Tryz.func170,Tryz.ntmps170
   go_wp2_with fail;refine (HTP.out _ HU0.out).mono ?_;rintro e w1 ⟨rfl,hu⟩;have HU1:=Lib.hid hu;obtain ⟨z0,z1⟩:=HB.out _ hu;clear hu b0 b1;go_wp2_with fail;refine (HBT.out _ (HU0.out.trans HU1.out)).mono ?_;rintro e w2 ⟨rfl,hu⟩;have HU2:=Lib.hid ((HU0.out.trans HU1.out).trans hu);clear hu z0 z1;go_wp2_with fail;go_ret2;refine ⟨1,0,K,F,rfl,.inl ⟨rfl,KV.Ext.refl K,HK.out.ok.tk_const (by omega),fun y=>?_,fun x=>by simp,fun x h1 h2=>by rw [h1] at h2;cases h2⟩,HK.out.upd HU2.out (by simp),HU2.out.mono (by simp),Sub.refl _ _⟩
   rw [HSS.out.1.const HK.out.ok HT.out.ok (HN.out.trans HSS.out.2.1) HV.out,HBI.out,K.den_const (by omega)];rfl
  | false =>
   have HBI:=Lib.hid hbit;rw [hbit] at HBT;clear hbit
   go_enter Tryz.func170,Tryz.ntmps170
   go_wp2_with fail;refine (HTP.out _ HU0.out).mono ?_;rintro e w1 ⟨rfl,hu⟩;have HU1:=Lib.hid hu;obtain ⟨z0,z1⟩:=HB.out _ hu;clear hu b0 b1;go_wp2_with fail;refine (HBT.out _ (HU0.out.trans HU1.out)).mono ?_;rintro e w2 ⟨rfl,hu⟩;have HU2:=Lib.hid ((HU0.out.trans HU1.out).trans hu);clear hu z0 z1;go_wp2_with fail;go_ret2;refine ⟨0,0,K,F,rfl,.inl ⟨rfl,KV.Ext.refl K,HK.out.ok.tk_const (by omega),fun y=>?_,fun x=>by simp,fun x h1 h2=>by rw [h1] at h2;cases h2⟩,HK.out.upd HU2.out (by simp),HU2.out.mono (by simp),Sub.refl _ _⟩
   rw [HSS.out.1.const HK.out.ok HT.out.ok (HN.out.trans HSS.out.2.1) HV.out,HBI.out,K.den_const (by omega)];rfl
 | some v =>
  have HV:=Lib.hid hv;rw [hv] at HTP;clear hv;have hz:topI (some v)=(v:Int):=rfl;rw [hz] at HTP;clear hz;have HSP:=Lib.hid (HSS.out.1.split HK.out.ok HT.out.ok (HN.out.trans HSS.out.2.1) HV.out)
  have hd0:¬ ((v:Int)<0):=by omega
  obtain ⟨d',hd'⟩ : ∃ d',d'+K.lev v+1=K.vars:=⟨K.vars-K.lev v-1,by have:=(HK.out.ok.ord.pm.lo v HSP.out.vn).1;omega⟩
  have hdd:d'<d:=by
   by_cases h1:K.lev v+d<K.vars
   ·have h2:=HSS.out.2.2.1 v HSP.out.vn h1
    rw [HSP.out.dep] at h2;cases h2
   ·omega
  go_enter Tryz.func170,Tryz.ntmps170
  go_wp2_with fail;refine (HTP.out _ HU0.out).mono ?_;rintro e w1 ⟨rfl,hu⟩;have HU1:=Lib.hid hu;obtain ⟨z0,z1⟩:=HB.out _ hu;clear hu b0 b1;go_wp2_with fail;refine (HCH.out _ v (HU0.out.trans HU1.out) HV.out).mono ?_;rintro e w2 hE;obtain ⟨c1,c2,rfl,h1,h2,hu⟩:=hE.ex;obtain ⟨la,lc,hlv,_⟩:=row_nil_len h1.row;obtain ⟨ga,gc,hgv,_⟩:=row_nil_len h2.row;subst hlv hgv;have HU2:=Lib.hid ((HU0.out.trans HU1.out).trans hu);have HC1:=Lib.hid (h1.tin (HZ.out _ (HU0.out.trans HU1.out)));have HC2:=Lib.hid (h2.tin (HZ.out _ (HU0.out.trans HU1.out)));unfold tabV;rw [HNN.out,HNN.out];generalize (cofT t v false).ws.length=LW at *;generalize (cofT t v true).ws.length=GW at *;clear hE h1 h2 hu z0 z1 HTP HBT HCH;go_wp2_with fail;have hq:=HK.out.ok.ord.pm;have HW3:Hid (Upd [] w ((w2.alloc (.cells #[.int .i64 n,.slice la LW lc] 122 (0,0))).alloc (.cells #[.int .i64 n,.slice ga GW gc] 122 (0,0)))):=(HU2.out.alloc _).alloc _;have hgb:=boxT (w2.alloc (.cells #[.int .i64 n,.slice la LW lc] 122 (0,0))) (.int .i64 n) (.slice ga GW gc);rw [World.size_alloc] at hgb;have HC1':=Lib.hid ((HC1.out.keep0 ((Upd.refl [] _).alloc (.cells #[.int .i64 n,.slice la LW lc] 122 (0,0)))).keep0 ((Upd.refl [] _).alloc (.cells #[.int .i64 n,.slice ga GW gc] 122 (0,0))));have HC2':=Lib.hid ((HC2.out.keep0 ((Upd.refl [] _).alloc (.cells #[.int .i64 n,.slice la LW lc] 122 (0,0)))).keep0 ((Upd.refl [] _).alloc (.cells #[.int .i64 n,.slice ga GW gc] 122 (0,0))));have hw2s:=HU2.out.size;generalize hW3:(w2.alloc (.cells #[.int .i64 n,.slice la LW lc] 122 (0,0))).alloc (.cells #[.int .i64 n,.slice ga GW gc] 122 (0,0))=w3 at *;have HE3:=Lib.hid hW3
  have HREC:=Lib.hid (HIH.out d' hdd K F Z S (.slice la LW lc) (cofT t v false) w3 (HM.out.keep0 HW3.out) (HK.out.upd HW3.out (by simp)) (HZ.out _ HW3.out) HSS.out.2.2.2.2.2.2.1 HSS.out.2.2.2.2.2.2.2 HSS.out.1 HC1'.out (by rw [HNN.out];exact HSS.out.2.1)
   (fun u hu hl=>HSP.out.nodep hq false hd' hu hl) (by omega) (fun x=>by have:=HSS.out.2.2.2.2.1 x;omega) (fun g hg=>HSS.out.2.2.2.2.2.1 g (HSP.out.sub hq hg)))
  unfold tabV at HREC;rw [HNN.out] at HREC;clear hW3;refine HREC.out.mono ?_;rintro e w4 hE;obtain ⟨r1,code1,K1,F1,rfl,hR1,hK1,hu1,hs1⟩:=hE.ex;have HK1:=Lib.hid (And.intro hK1 (And.intro hu1 hs1));have HR1:=Lib.hid hR1
  rcases hR1 with ⟨rfl,e1,t1,dn1,hd1,n1⟩ | ⟨rfl,rfl,e1,b1,hd1,nf⟩
  ·have HX1:=Lib.hid (And.intro e1 (And.intro t1 (And.intro dn1 (And.intro hd1 n1))))
   have hgo:w4.cell? ⟨w2.heap.size+1,0,none⟩=some (.int .i64 n)/\w4.cell? ⟨w2.heap.size+1,1,none⟩=some (.slice ga GW gc):=by
    have hFl:=HK.out.lt
    have hnF:w2.heap.size+1∉F:=fun hm=>by have:=hFl _ hm;omega
    exact ⟨(hu1.cell (a:=⟨w2.heap.size+1,0,none⟩) (World.block_lt_of_cell? _ _ hgb.1) hnF).trans hgb.1,(hu1.cell (a:=⟨w2.heap.size+1,1,none⟩) (World.block_lt_of_cell? _ _ hgb.2) hnF).trans hgb.2⟩
   obtain ⟨g0,g1⟩:=hgo;have hFZ:=HSS.out.2.2.2.2.2.2.1;have hFm:=HSS.out.2.2.2.2.2.2.2;have hsF:∀ k,k∈F1->k∈F\/w3.heap.size<=k:=hs1
   have hz1:Sub Z w3 (Z++F1):=fun k hk=>by
    rcases List.mem_append.1 hk with hk | hk
    ·exact .inl hk
    ·exact (hsF k hk).imp (hFZ k) id
   have hm3:ModIn w3 m M p Z:=HM.out.keep0 HW3.out
   have hml:∀ k,k∈p.all m->k<w3.heap.size:=fun k hk=>HZ.out _ HW3.out k (HM.out.sz k hk)
   have HREC2:=Lib.hid (HIH.out d' hdd K1 F1 (Z++F1) S (.slice ga GW gc) (cofT t v true) w4
    ((hm3.apart hz1 (fun k hk=>List.mem_append.2 (.inl (HM.out.sz k hk)))).keep hu1 (fun k hk=>.inl (List.mem_append.2 (.inl (hFZ k hk)))) (fun k hk hm=>hFm k hm hk)) hK1
    (fun k hk=>by
     rcases List.mem_append.1 hk with hk | hk
     ·exact Nat.lt_of_lt_of_le (HZ.out _ HW3.out k hk) hu1.size
     ·exact hK1.lt k hk)
    (fun k hk=>List.mem_append.2 (.inr hk))
    (fun k hk hm=>by
     rcases hsF k hk with h | h
     ·exact hFm k h hm
     ·have:=hml k hm;omega)
    (HSS.out.1.ext e1) ((HC2'.out.apart hz1).keep hu1 fun k hk=>.inl (List.mem_append.2 (.inl (hFZ k hk)))) (by rw [HNN.out];exact HSS.out.2.1)
    (fun u hu hl=>HSP.out.nodep hq true hd' (by rw [<- e1.vr];exact hu) (by rw [e1.lev,e1.vr] at hl;exact hl)) (by rw [e1.vr];omega)
    (fun x=>by have:=HSS.out.2.2.2.2.1 x;rw [hd1];split <;> omega) (fun g hg=>HSS.out.2.2.2.2.2.1 g (HSP.out.sub hq (e1.subN.1 hg))))
   unfold tabV at HREC2;rw [HNN.out] at HREC2;have HFM:=Lib.hid (And.intro hFZ (And.intro hFm hsF));clear hE hK1 hu1 hs1 hFZ hFm hsF hz1 hm3 hml e1 t1 dn1 hd1 n1 hgb HREC HC1 HC1' HC2 HC2' HIH;go_wp2_with fail;refine HREC2.out.mono ?_;rintro e w5 hE;obtain ⟨r2,code2,K2,F2,rfl,hR2,hK2,hu2,hs2⟩:=hE.ex;have HK2:=Lib.hid (And.intro hK2 (And.intro hu2 hs2));clear hE hK2 hu2 hs2 HREC2 g0 g1
   rcases hR2 with ⟨rfl,e2,t2,dn2,hd2,n2⟩ | ⟨rfl,rfl,e2,b2,hd2,nf⟩
   ·-- both parts are held: Make
    have hw0:=HK.out.ok;have k1:=HK1.out.1.ok;have k2:=HK2.out.1.ok;have u2:=HK2.out.1.uni;have e02:K.Ext K2:=HX1.out.1.trans e2;have ta2:K2.A.tk r1=true:=e2.tk HX1.out.2.1
    have da2:∀ y,K2.den r1 y=(cofT t v false).fn y:=fun y=>by rw [e2.den k1.wf y HX1.out.2.1];exact HX1.out.2.2.1 y
    have hl1:r1<=4294967295:=by have:=k2.ref_lt ta2;omega
    have hl2:r2<=4294967295:=by have:=k2.ref_lt t2;omega
    have hh2:∀ x,K2.hold x<65535:=fun x=>by
     have:=HSS.out.2.2.2.2.1 x
     rw [hd2,HX1.out.2.2.2.1];split <;> split <;> omega
    have hn2:∀ x,K2.A.tk x=true->K.A.tk x=false->S (K2.den x):=fun x h1 h2=>by
     cases h3:K1.A.tk x with
     | false=>exact n2 x h1 h3
     | true =>
      have e1:K2.den x=K1.den x:=funext fun y=>e2.den k1.wf y h3
      rw [e1];exact HX1.out.2.2.2.2 x h3 h2
    have hh1:∀ x,K2.hold x=K.hold x+(if x=r1/\2<=r1 then 1 else 0)+(if x=r2/\2<=r2 then 1 else 0):=fun x=>by rw [hd2,HX1.out.2.2.2.1]
    have hSt:S t.fn:=HSS.out.2.2.2.2.2.1 _ ⟨0,fun _=>false,fun y=>by congr 1;funext u;simp [KV.mix]⟩;have HMK:=Lib.hid (fun (r:Nat) (code:Int) (K3:KV) (k3:K3.Ok) (hM:MakeR K2 (v:Int) r1 r2 r code K3)=>lay_make HSP.out e02 k2 u2 ta2 t2 da2 dn2 hh2 hSt hn2 k3 hM);have HH1:=Lib.hid (And.intro hh1 e02);clear hw0 k1 k2 u2 e02 ta2 da2 hh2 hn2 hSt hh1 e2 t2 dn2 hd2 n2 HX1;go_wp2_with fail;refine (make_at b v r1 r2 K2 F2 _ HK2.out.1 hl1 hl2).mono ?_;rintro e w6 ⟨r,code,K3,F3,rfl,hM,hK3,hu3,hs3⟩;have hres:=HMK.out r code K3 hK3.ok hM;have HK3:=Lib.hid (And.intro hK3 (And.intro hu3 hs3));clear hM hK3 hu3 hs3 HMK
    have hh3:(2<=r2->0<K3.hold r2)/\(2<=r1->0<K3.hold r1-(if r1=r2/\2<=r2 then 1 else 0)):=by
     rcases hres with ⟨_,_,_,_,h3,_⟩ | ⟨_,_,rfl,_⟩
     ·refine ⟨fun h=>?_,fun h=>?_⟩
      ·rw [h3,HH1.out.1,if_pos (⟨rfl,h⟩ : r2=r2/\2<=r2)];omega
      ·rw [h3,HH1.out.1,if_pos (⟨rfl,h⟩ : r1=r1/\2<=r1)];split <;> omega
     ·refine ⟨fun h=>?_,fun h=>?_⟩
      ·rw [HH1.out.1,if_pos (⟨rfl,h⟩ : r2=r2/\2<=r2)];omega
      ·rw [HH1.out.1,if_pos (⟨rfl,h⟩ : r1=r1/\2<=r1)];split <;> omega
    have HH3:=Lib.hid hh3;have HRES:=Lib.hid hres;clear hh3 hres
    have HFIN:Hid (∀ (K4 K5:KV),K3.Dropped r2 K4->K4.Dropped r1 K5->K5.Ok->LayR K S t.fn r code K5):=fun K4 K5 D4 D5 k5=>by
     have e5:K5.Ext K3:=D5.ext.trans D4.ext
     have hd:∀ x,K5.hold x=K3.hold x-(if x=r2/\2<=r2 then 1 else 0)-(if x=r1/\2<=r1 then 1 else 0):=fun x=>by
      rw [D5.hd,D4.hd];split <;> split <;> omega
     rcases HRES.out with ⟨rfl,h1,h2,h3,h4,h5⟩ | ⟨rfl,rfl,rfl,h4⟩
     ·refine lay_end HK.out.ok k5 (HH1.out.2.trans h1) e5 h3 (fun x=>?_) h5
      rw [hd,h4,HH1.out.1];split <;> split <;> split <;> omega
     ·refine lay_bad HK.out.ok k5 HH1.out.2 e5 (fun x=>?_) h4
      rw [hd,HH1.out.1];split <;> split <;> omega
    by_cases hc:code=0
    ·subst hc
     go_wp2_with fail;refine (drop_at b r2 K3 F3 _ HK3.out.1 hl2 HH3.out.1).mono ?_;rintro e w7 ⟨K4,F4,rfl,hD4,hK4,hu4,hs4⟩;have HK4:=Lib.hid (And.intro hK4 (And.intro (Stp.mk hu4 hs4) hD4));clear hD4 hK4 hu4 hs4;go_wp2_with fail;refine (drop_at b r1 K4 F4 _ HK4.out.1 hl1 (fun h=>by have:=HH3.out.2 h;rw [HK4.out.2.2.hd];split at this <;> split <;> simp_all)).mono ?_;rintro e w8 ⟨K5,F5,rfl,hD5,hK5,hu5,hs5⟩;have HK5:=Lib.hid (And.intro hK5 (And.intro (Stp.mk hu5 hs5) hD5));clear hD5 hK5 hu5 hs5;go_wp2_with fail;go_ret2;have hst:=(((((Stp.of0 (F:=F) HW3.out).trans ⟨HK1.out.2.1,HK1.out.2.2⟩).trans ⟨HK2.out.2.1,HK2.out.2.2⟩).trans ⟨HK3.out.2.1,HK3.out.2.2⟩).trans HK4.out.2.1).trans HK5.out.2.1;exact ⟨r,0,K5,F5,rfl,HFIN.out K4 K5 HK4.out.2.2 HK5.out.2.2 HK5.out.1.ok,HK5.out.1,hst.up,hst.sub⟩
    ·obtain ⟨rfl,rfl⟩ : code=9/\r=0:=by
      rcases HRES.out with ⟨h,_⟩ | ⟨h1,h2,_⟩
      ·exact absurd h hc
      ·exact ⟨h1,h2⟩
     clear hc;go_wp2_with fail;refine (drop_at b r2 K3 F3 _ HK3.out.1 hl2 HH3.out.1).mono ?_;rintro e w7 ⟨K4,F4,rfl,hD4,hK4,hu4,hs4⟩;have HK4:=Lib.hid (And.intro hK4 (And.intro (Stp.mk hu4 hs4) hD4));clear hD4 hK4 hu4 hs4;go_wp2_with fail;refine (drop_at b r1 K4 F4 _ HK4.out.1 hl1 (fun h=>by have:=HH3.out.2 h;rw [HK4.out.2.2.hd];split at this <;> split <;> simp_all)).mono ?_;rintro e w8 ⟨K5,F5,rfl,hD5,hK5,hu5,hs5⟩;have HK5:=Lib.hid (And.intro hK5 (And.intro (Stp.mk hu5 hs5) hD5));clear hD5 hK5 hu5 hs5;go_wp2_with fail;go_ret2;have hst:=(((((Stp.of0 (F:=F) HW3.out).trans ⟨HK1.out.2.1,HK1.out.2.2⟩).trans ⟨HK2.out.2.1,HK2.out.2.2⟩).trans ⟨HK3.out.2.1,HK3.out.2.2⟩).trans HK4.out.2.1).trans HK5.out.2.1;exact ⟨0,9,K5,F5,rfl,HFIN.out K4 K5 HK4.out.2.2 HK5.out.2.2 HK5.out.1.ok,HK5.out.1,hst.up,hst.sub⟩
   ·-- the second part has no room: the first is given up
    have k1:=HK1.out.1.ok
    have hl1:r1<=4294967295:=by have:=k1.ref_lt HX1.out.2.1;omega
    have hh1:2<=r1->0<K2.hold r1:=fun h=>by rw [hd2,HX1.out.2.2.2.1,if_pos (⟨rfl,h⟩ : r1=r1/\2<=r1)];omega
    have HFIN:Hid (∀ K5:KV,K2.Dropped r1 K5->K5.Ok->LayR K S t.fn 0 9 K5):=fun K5 D5 k5 =>
     lay_bad HK.out.ok k5 (HX1.out.1.trans e2) D5.ext (fun x=>by rw [D5.hd,hd2,HX1.out.2.2.2.1];split <;> omega) (nf.back k1.wf HX1.out.1 HX1.out.2.2.2.2)
    clear k1 e2 b2 hd2 nf HX1;go_wp2_with fail;refine (drop_at b r1 K2 F2 _ HK2.out.1 hl1 hh1).mono ?_;rintro e w8 ⟨K5,F5,rfl,hD5,hK5,hu5,hs5⟩;have HK5:=Lib.hid (And.intro hK5 (And.intro (Stp.mk hu5 hs5) hD5));clear hD5 hK5 hu5 hs5;go_wp2_with fail;go_ret2;have hst:=(((Stp.of0 (F:=F) HW3.out).trans ⟨HK1.out.2.1,HK1.out.2.2⟩).trans ⟨HK2.out.2.1,HK2.out.2.2⟩).trans HK5.out.2.1;exact ⟨0,9,K5,F5,rfl,HFIN.out K5 HK5.out.2.2 HK5.out.1.ok,HK5.out.1,hst.up,hst.sub⟩
  ·have HX:=Lib.hid (And.intro hu1 hs1)
   have HL:Hid (LayR K S t.fn 0 9 K1):=.inr ⟨rfl,rfl,e1,b1,hd1,nf⟩;clear hE hK1 hu1 hs1 e1 b1 hd1 nf hgb;go_wp2_with fail;go_ret2;exact ⟨0,9,K1,F1,rfl,HL.out,HK1.out.1,HW3.out.trans0 HK1.out.2.1,fun k hk=>(HK1.out.2.2 k hk).imp id fun h=>Nat.le_trans HW3.out.size h⟩
end Go.Proofs.YtfkopmhpppeheaaGreat
namespace Go.Proofs.YtfkopmhpppeheaaGreat
open Go.RowKit Go.Maps Go.ChangeMaps Go.WideShapes Go.Shelf
attribute [local go_sem] Oper.semAt_some
structure Came (D:DM) (left:Lit->Bool) (ps:List (Lit × Int)):Prop where
 nd:(ps.map (·.1)).Nodup
 at_:∀ p,p∈ps->∀ z,D.atKey p.1 z=.lit (.int .u32 p.2)
 mem:∀ k,k∈ps.map (·.1)↔(Maps.has D k=true/\left k=false)
theorem Came.start (D:DM):Came D (Maps.has D) []:=⟨by simp,by simp,fun k=>by cases Maps.has D k <;> simp⟩
theorem Came.step {D:DM} {left:Lit->Bool} {ps:List (Lit × Int)} (h:Came D left ps) {k:Lit} {c:Int} (hk:WideAt.IsKeyLit k) (hl:left k=true) (hat:∀ z,D.atKey k z=.lit (.int .u32 c)):Came D (fun z=>left z&&!z.sameKey k) (ps++[(k,c)]):=by
 have hh:Maps.has D k=true:=has_true_of_atKey hat;refine ⟨?_,fun p hp=>?_,fun z=>?_⟩
 ·rw [List.map_append,List.nodup_append]
  refine ⟨h.nd,by simp,fun a ha b hb=>?_⟩
  simp at hb;subst hb
  rintro rfl;have:=((h.mem a).1 ha).2
  rw [hl] at this;cases this
 ·rcases List.mem_append.1 hp with hp | hp
  ·exact h.at_ p hp
  ·simp at hp;subst hp;exact hat
 ·rw [List.map_append,List.mem_append,h.mem]
  by_cases e:z=k
  ·subst e;simp [hh,WideAt.sameKey_self hk]
  ·simp [e,sameKey_ne e]
def AllVals (D:DM) (l:List Int):Prop:=∃ ps:List (Lit × Int),(ps.map (·.1)).Nodup/\(∀ p,p∈ps->∀ z,D.atKey p.1 z=.lit (.int .u32 p.2))/\(∀ k,k∈ps.map (·.1)↔Maps.has D k=true)/\l=ps.map (·.2)
theorem Came.all {D:DM} {left:Lit->Bool} {ps:List (Lit × Int)} (h:Came D left ps) (hl:∀ k,left k=false):AllVals D (ps.map (·.2)):=⟨ps,h.nd,h.at_,fun k=>by rw [h.mem,hl];simp,rfl⟩
theorem key_isKey {key:Value} {kl:Lit} (h:keyOf Tryz.prog 116 key=some kl):WideAt.IsKeyLit kl:=by
 unfold keyOf at h;rw [Tryz.underlying116] at h
 simp at h
 obtain ⟨_,ls,_,rfl⟩:=h
 trivial
theorem values1_in (n:Nat) (hn:1<=n) (l Bm b nn:Nat) (D:DM) (J Jx:List Int->World->Prop)
  (hY:∀ pre x W,J pre W->pre.length<Maps.size D->YieldAt Fence.wide (n-1) Tryz.prog l #[.int .u32 x] W fun e W' =>
   (e=.returned (.bool true)/\J (pre++[x]) W'/\KeepsWalks W W')\/(e=.returned (.bool false)/\Jx (pre++[x]) W'))
  (W:World) (hJ:AbidesFrom W.heap.size J) (hm:W.cell? ⟨Bm,0,none⟩=some (.map (some b))) (hown:W.ownsMap Tryz.prog 116 (plainElem Tryz.prog 77) b nn D) (h0:J [] W) :
  CallsIn Fence.wide n Tryz.prog 250 #[.func (.yield l) #[] #[],.pointer (some ⟨Bm,0,none⟩)] W fun e W'=>(∃ v,e=.returned v) /\
   ((∃ xs,AllVals D xs/\J xs W')\/(∃ pre,True/\Jx pre W')):=by
 refine callsIn_of_wp Tryz.func250 rfl trivial ?_ rfl
 simp only [Tryz.ntmps250,List.size_toArray,List.length_cons,List.length_nil,Nat.reduceAdd,Nat.reduceSub,Array.replicate_succ,Array.replicate_zero,List.push_toArray,List.append_toArray,List.nil_append,List.cons_append]
 gi_wp2_with (first
  | (gi_at_range;refine wpListIn_range_own _ rfl _ 186 rfl 116 77 nodeKeyed Tryz.underlying186 _ b nn _ rfl hown ?_;intro w0 hrg0 hg0 hs0)
  | gi_in)
 go_frame
 gi_loopw [4] (fun _ wr=>∃ (left:Lit->Bool) (cnt:Nat) (ps:List (Lit × Int)),wr.ranges Tryz.prog 116 (plainElem Tryz.prog 77) b W.heap.size nn D left cnt/\ps.length+cnt<=Maps.size D/\Came D left ps/\J (ps.map (·.2)) wr)
  (fun _ wr=>wr.rangeLeft b W.heap.size)
 case atStart =>
  exact ⟨_,_,[],hrg0,by simp,Came.start D,hJ [] W w0 none h0 hg0 (fun r e=>by cases e)⟩
 case round =>
  obtain ⟨left,cnt,ps,hrg,hcs,hC,hJs⟩:=hrel
  gi_wp2_with (first
   | (gi_at_next;refine wpListIn_next_ranges _ rfl _ rfl 116 nodeKeyed (plainElem Tryz.prog 77) id (Value.int .u32) (fun key kl hk=>⟨key,rfl⟩) (fun v y hv=>by obtain ⟨c,rfl,_⟩:=plainElem_int_inv Tryz.underlying77 hv;exact ⟨c,rfl⟩) b W.heap.size nn _ _ _ rfl hrg ?_ ?_)
   | gi_in)
  ·intro hc0 hl0
   gi_wp2
   go_end0;exact ⟨⟨_,rfl⟩,.inl ⟨_,hC.all hl0,hJs⟩⟩
  ·intro x c kl yd yp w2 cnt2 hkey hlk hv hat hrg2 hlt hg2 hs2 hen
   obtain ⟨c',ec,ez,_⟩:=plainElem_int_inv Tryz.underlying77 hv
   obtain rfl:c=c':=by simpa using ec
   obtain rfl:yd=.lit (.int .u32 c):=(Prod.mk.inj ez).1;have hJ2:J (ps.map (·.2)) w2:=hJ _ wr w2 (some W.heap.size) hJs hg2 (fun r e=>by cases e;exact ⟨Nat.le_refl _,hrg.iter_walk⟩);obtain ⟨fn,tmps,assign,body,hy,hR⟩:=hY (ps.map (·.2)) c w2 hJ2 (by simp;omega);clear hs2
   gi_wp2
   refine hR.mono ?_;have hC2:=hC.step (key_isKey hkey) hlk hat;rintro e W3 (⟨rfl,hJ3,hk3⟩ | ⟨rfl,hJx3⟩)
   ·gi_wp2
    have hrg3:=hrg2.of_walks hk3
    go_roundw
    case rel=>exact ⟨_,cnt2,ps++[(kl,c)],hrg3,by simp;omega,hC2,by simpa using hJ3⟩
    case measure=>rw [hrg3.left_eq,hrg.left_eq];exact hlt
   ·gi_wp2
    refine bodyPost_ret (results_none rfl _ _ _) rfl ?_;exact ⟨⟨_,rfl⟩,.inr ⟨_,trivial,hJx3⟩⟩
theorem values_in (n:Nat) (mb:Option Nat) (w:World) :
  CallsIn Fence.wide n Tryz.prog 242 #[.map mb] w fun e w'=>e=.returned (.func (.func 250) #[] #[.pointer (some ⟨w.heap.size,0,none⟩)])/\w'=w.alloc (.cells #[.map mb] 186):=by
 refine callsIn_of_wp Tryz.func242 rfl trivial ?_ rfl
 simp only [Tryz.ntmps242,List.size_toArray,List.length_cons,List.length_nil,Nat.reduceAdd,Nat.reduceSub,Array.replicate_succ,Array.replicate_zero,List.push_toArray,List.append_toArray,List.nil_append,List.cons_append]
 gi_wp2
 go_ret;exact ⟨rfl,rfl⟩
theorem values_stops (n:Nat) (hn:1<=n) (Bm b nn:Nat) (D:DM) (w:World) (hBm:Bm<w.heap.size) (hm:w.cell? ⟨Bm,0,none⟩=some (.map (some b))) (hown:w.ownsMap Tryz.prog 116 (plainElem Tryz.prog 77) b nn D) :
  SeqStopsK Fence.wide n Tryz.prog 250 #[.pointer (some ⟨Bm,0,none⟩)] (fun x:Int=>#[Value.int .u32 x]) KeepsWalks (AllVals D) (fun _=>True) (Maps.size D) w:=fun l J Jx W hW hJ _ hY h0=>by
 have hown':W.ownsMap Tryz.prog 116 (plainElem Tryz.prog 77) b nn D:=own_keep hown (hW.block b hown.lt);exact values1_in n hn l Bm b nn D J Jx hY W hJ ((hW.cell (p:=⟨Bm,0,none⟩) hBm).trans hm) hown' h0
attribute [local go_sem] Oper.semAt_some
theorem Tryz.infoRefE:(Tryz.prog.info? 77).map (fun i=>(i.zero,i.size,i.bytes))=some (some (.int .u32 0),1,4):=by kernel_rfl
structure GatherQ (D:DM) (n0:Nat) (w:World) (e:Ending) (w':World):Prop where
 ex:∃ (v:Value) (l:List Int),e=.returned v/\AllVals D l/\w'.ownsRow n0 77 1 v l.length (l.map (Value.int .u32))/\Below w.heap.size w w'
theorem appendSeq_in (n:Nat) (hn:3<=n) (Bm b nn:Nat) (D:DM) (w:World) (hBm:Bm<w.heap.size) (hm:w.cell? ⟨Bm,0,none⟩=some (.map (some b))) (hown:w.ownsMap Tryz.prog 116 (plainElem Tryz.prog 77) b nn D) (hsz:Maps.size D<=1048576) :
  CallsIn Fence.wide n Tryz.prog 251 #[.slice none 0 0,.func (.func 250) #[] #[.pointer (some ⟨Bm,0,none⟩)]] w fun e w'=>GatherQ D w.heap.size w e w':=by
 have h1:1<=n:=by omega
 obtain ⟨i0,hi,hz0,hz1,hz2⟩:=info_parts Tryz.infoRefE;refine callsIn_of_wp_marks Tryz.func251 rfl trivial ?_ rfl
 simp only [Tryz.ntmps251,List.size_toArray,List.length_cons,List.length_nil,Nat.reduceAdd,Nat.reduceSub,Array.replicate_succ,Array.replicate_zero,List.push_toArray,List.append_toArray,List.nil_append,List.cons_append]
 gi_wp2
 have bO:=Boxed.new w 42 (.slice none 0 0);have hB0:Below w.heap.size w (w.alloc (.cells #[.slice none 0 0] 42)):=(Below.refl _ w).alloc (Nat.le_refl _) _;have hm1:(w.alloc (.cells #[.slice none 0 0] 42)).cell? ⟨Bm,0,none⟩=some (.map (some b)):=(hB0.cell (p:=⟨Bm,0,none⟩) hBm).trans hm;have hown1:(w.alloc (.cells #[.slice none 0 0] 42)).ownsMap Tryz.prog 116 (plainElem Tryz.prog 77) b nn D:=own_keep hown (hB0.block b hown.lt)
 refine wpIn_rangeFunc_ownG rfl h1 (gf:=250) (lb:=#[.pointer (some ⟨Bm,0,none⟩)]) rfl trivial (enters_of Tryz.func250 (by kernel_rfl) rfl)
  (values_stops (n-1) (by omega) Bm b nn D _ (by simp;omega) hm1 hown1) walksK_t walksK_b (Below.refl _ _) (fun _=>rfl)
  (fun pre W=>(∃ v,Boxed W w.heap.size 42 v/\W.ownsRow w.heap.size 77 1 v pre.length (pre.map (Value.int .u32))/\True)/\Below w.heap.size w W)
  (fun _ _ _=>False)
  (OwnFrom.and (Own.from (holdsRow_own w.heap.size w.heap.size 42 77 1 (fun pre:List Int=>pre.length) (fun pre=>pre.map (Value.int .u32)) (fun _ _=>True)) _) (ownFrom_below (Nat.le_refl _) (by simp)))
  (fun _ _ _ _ _ hs _ _=>hs)
  ⟨⟨_,bO,World.ownsRow_nil _ _ _ _,trivial⟩,hB0⟩
  (fun x=>{ tmps:=#[.slice none 0 0,.func (.func 250) #[] #[.pointer (some ⟨Bm,0,none⟩)],.pointer (some ⟨w.heap.size,0,none⟩),undef,.slice none 0 0,.int .u32 x,.func (.func 250) #[] #[.pointer (some ⟨Bm,0,none⟩)],.int .u32 x,undef,undef,undef,undef,undef],defers:=[] }) ?assign ?body ?done ?stop
 case assign =>
  intro l x W K hK
  gi_wp2
  exact hK
 case body =>
  rintro l pre x W ⟨⟨v,hv,hrow,_⟩,hB⟩ hlt;have hc:=hv.cell
  gi_wp2_with (gi_at_builtin;refine wpListIn_append_own _ rfl _ _ 42 rfl w.heap.size 77 i0 (.int .u32 0) 1 4 Tryz.underlying42 hi hz0 hz1 hz2 rfl (by decide) _ _ _ rfl (hrow.alloc _) ⟨W.heap.size,0,none⟩ 1 1 [.int .u32 x] rfl rfl (cell_one_new _ _ _) (by simp [Value.oneCell']) (by unfold maxLen;omega) (by omega) (by have:=hB.size;simp;omega) ?_;intro v' w1 hown' hgrow _;obtain ⟨g',cap',rfl⟩:=ownsRow_succ hown';obtain ⟨hv1,hv2,hr2,hk2,hb2⟩:=hv.appended (by decide) hrow hB.size (Nat.le_refl _) hown' hgrow;have hc1:=hv1.cell;have hf1:=hv1.frozen)
  exact ⟨hk2.from _,hk2.walks,⟨_,hv2,by simpa using hr2,trivial⟩,hB.trans hb2⟩
 case done =>
  rintro Dd ys W hD hys ⟨⟨v,hv,hrow,_⟩,hB⟩ hK;have hc:=hv.cell
  gi_wp2
  refine ⟨by simp,.inl ⟨_,_,rfl,run_takeDeferred hK,?_⟩⟩;exact ⟨_,results_tmp rfl _ _ _,v,ys,rfl,hys,ownsRow_putObj hrow _ hK rfl,hB.trans (belowK_b (w:=w) (Nat.le_refl _) W Dd _ _ (by simp at hD;omega) hK rfl rfl)⟩
 case stop =>
  rintro Dd c pre W _ _ h _;exact h.elim
theorem collect_in (n:Nat) (hn:4<=n) (Bm b nn:Nat) (D:DM) (w:World) (hBm:Bm<w.heap.size) (hm:w.cell? ⟨Bm,0,none⟩=some (.map (some b))) (hown:w.ownsMap Tryz.prog 116 (plainElem Tryz.prog 77) b nn D) (hsz:Maps.size D<=1048576) :
  CallsIn Fence.wide n Tryz.prog 248 #[.func (.func 250) #[] #[.pointer (some ⟨Bm,0,none⟩)]] w fun e w'=>GatherQ D w.heap.size w e w':=by
 refine callsIn_of_wp Tryz.func248 rfl trivial ?_ rfl
 simp only [Tryz.ntmps248,List.size_toArray,List.length_cons,List.length_nil,Nat.reduceAdd,Nat.reduceSub,Array.replicate_succ,Array.replicate_zero,List.push_toArray,List.append_toArray,List.nil_append,List.cons_append]
 gi_wp2
 refine ⟨trivial,fun _=>by omega,?_⟩;refine (appendSeq_in (n-1) (by omega) Bm b nn D _ hBm hm hown hsz).mono ?_;rintro e w' hE;obtain ⟨v,l,rfl,hl,hr,hB⟩:=hE.ex;clear hE
 gi_wp2
 go_ret;exact ⟨v,l,rfl,hl,hr,hB⟩
end Go.Proofs.YtfkopmhpppeheaaGreat
namespace Go.Proofs.YtfkopmhpppeheaaGreat
open Go.RowKit Go.Maps Go.ChangeMaps Go.WideShapes
theorem len64_zero (w:World):Calls Tryz.prog 264 #[.int .u64 0] w fun e w'=>(∃ c:Int,e=.returned (.int .i64 c))/\w'=w:=by
 go_enter Tryz.func264,Tryz.ntmps264
 go_wp2_with fail;go_ret;exact ⟨⟨_,rfl⟩,rfl⟩
theorem len_zero (w:World):Calls Tryz.prog 253 #[.int .u64 0] w fun e w'=>(∃ c:Int,e=.returned (.int .i64 c))/\w'=w:=by
 go_enter Tryz.func253,Tryz.ntmps253
 go_wp2_with fail;refine (len64_zero _).mono ?_;rintro e w1 ⟨⟨c,rfl⟩,rfl⟩;go_wp2_with fail;go_ret;exact ⟨⟨_,rfl⟩,rfl⟩
theorem insSort_empty (a:Option Addr) (c:Nat) (w:World):Calls Tryz.prog 254 #[.slice a 0 c,.int .i64 0,.int .i64 0] w fun e w'=>e=.returned (.tuple #[])/\w'=w:=by
 go_enter Tryz.func254,Tryz.ntmps254
 go_wp2_with fail
 go_loopg [6] 0 (fun gg s6 wr=>gg=0/\s6=.int .i64 1/\wr=w)
 case atStart=>exact ⟨rfl,rfl,rfl⟩
 case round =>
  obtain ⟨rfl,rfl,rfl⟩:=hrel;go_wp2_with fail;go_end0;exact ⟨rfl,rfl⟩
theorem pdq_empty (a:Option Addr) (c:Nat) (l:Int) (w:World):Calls Tryz.prog 252 #[.slice a 0 c,.int .i64 0,.int .i64 0,.int .i64 l] w fun e w'=>e=.returned (.tuple #[])/\w'=w:=by
 go_enter Tryz.func252,Tryz.ntmps252
 go_wp2_with fail
 go_loopg [1,2,3] 0 (fun gg s1 s2 s3 wr=>gg=0/\s1=.int .i64 0/\s2=.int .i64 0/\wr=w)
 case atStart=>exact ⟨rfl,rfl,rfl,rfl⟩
 case round =>
  obtain ⟨rfl,rfl,rfl,rfl⟩:=hrel;go_wp2_with fail;refine (insSort_empty a c _).mono ?_;rintro e w1 ⟨rfl,rfl⟩;go_wp2_with fail;refine bodyPost_ret (results_none rfl _ _ _) rfl ?_;exact ⟨rfl,rfl⟩
theorem sort_empty (a:Option Addr) (c:Nat) (w:World):Calls Tryz.prog 249 #[.slice a 0 c] w fun e w'=>e=.returned (.tuple #[])/\w'=w:=by
 go_enter Tryz.func249,Tryz.ntmps249
 go_wp2_with fail;refine (len_zero _).mono ?_;rintro e w1 ⟨⟨l,rfl⟩,rfl⟩;go_wp2_with fail;refine (pdq_empty a c l _).mono ?_;rintro e w2 ⟨rfl,rfl⟩;go_wp2_with fail;go_end0;exact ⟨rfl,rfl⟩
theorem AllVals.none {D:DM} {l:List Int} (h:AllVals D l) (hD:∀ k,Maps.has D k=false):l=[]:=by
 obtain ⟨ps,_,_,hm,rfl⟩:=h
 cases ps with
 | nil=>rfl
 | cons p ps =>
  have:=(hm p.1).1 (by simp)
  rw [hD] at this;cases this
theorem collect_calls (Bm b nn:Nat) (D:DM) (w:World) (hBm:Bm<w.heap.size) (hm:w.cell? ⟨Bm,0,none⟩=some (.map (some b))) (hown:w.ownsMap Tryz.prog 116 (plainElem Tryz.prog 77) b nn D) (hsz:Maps.size D<=1048576) :
  Calls Tryz.prog 248 #[.func (.func 250) #[] #[.pointer (some ⟨Bm,0,none⟩)]] w fun e w'=>GatherQ D w.heap.size w e w' :=
 callsIn_wide.1 (collect_in 10 (by omega) Bm b nn D w hBm hm hown hsz)
theorem values_calls (mb:Option Nat) (w:World) :
  Calls Tryz.prog 242 #[.map mb] w fun e w'=>e=.returned (.func (.func 250) #[] #[.pointer (some ⟨w.heap.size,0,none⟩)])/\w'=w.alloc (.cells #[.map mb] 186) :=
 callsIn_wide.1 (values_in 10 mb w)
theorem below_upd {n:Nat} {w w':World} (h:Below n w w') (hn:w.heap.size<=n):Upd [] w w' :=
 ⟨h.os,h.tape,h.output,h.size,fun k hk _=>h.block k (by omega)⟩
theorem sorted_empty (Bm b nn:Nat) (D:DM) (w:World) (hBm:Bm<w.heap.size) (hm:w.cell? ⟨Bm,0,none⟩=some (.map (some b))) (hown:w.ownsMap Tryz.prog 116 (plainElem Tryz.prog 77) b nn D) (hsz:Maps.size D<=1048576) (hD:∀ k,Maps.has D k=false) :
  Calls Tryz.prog 241 #[.func (.func 250) #[] #[.pointer (some ⟨Bm,0,none⟩)]] w fun e w'=>∃ (a:Option Addr) (c:Nat),e=.returned (.slice a 0 c)/\Upd [] w w':=by
 have HC:=Lib.hid (collect_calls Bm b nn D w hBm hm hown hsz);clear hm hown
 go_enter Tryz.func241,Tryz.ntmps241
 go_wp2_with fail;refine HC.out.mono ?_;rintro e w1 hE;obtain ⟨v,l,rfl,hl,hr,hB⟩:=hE.ex;obtain rfl:=hl.none hD;obtain ⟨a,c,rfl,_⟩:=row_nil_len hr;have HU:=Lib.hid (below_upd hB (Nat.le_refl _));clear hE hl hr hB HC hD
 simp only [List.length_nil]
 go_wp2_with fail;refine (sort_empty a c _).mono ?_;rintro e w2 ⟨rfl,rfl⟩;go_wp2_with fail;go_ret;exact ⟨a,c,rfl,HU.out⟩
theorem refs_empty (tb:Nat) (F:List Nat) (v:Nat) (T:List DM) (D:DM) (w:World) (h:TabAt w tb T F) (hv:T[v]?=some D) (hD:∀ k,Maps.has D k=false) (hsz:Maps.size D<=1048576) :
  Calls Tryz.prog 216 #[.pointer (some ⟨tb,0,none⟩),.int .i64 v] w fun e w'=>∃ (a:Option Addr) (c:Nat),e=.returned (.tuple #[.slice a 0 c,.int .i64 0])/\Upd [] w w':=by
 obtain ⟨g,cap,m,t1,t2,t3,c0,c1,hown⟩:=h.cells hv;have hvl:=(List.getElem?_eq_some_iff.1 hv).1;have hbd:=h.bd;have HT:=Lib.hid h;have HO:=Lib.hid hown
 have hvi:(v:Int)<(T.length:Int):=by omega
 clear h hown t1 t2 t3 hv
 go_enter Tryz.func216,Tryz.ntmps216
 go_wp2_with fail;refine (tcheck_ok tb F v T _ HT.out (by omega) (by omega)).mono ?_;rintro e w1 ⟨rfl,rfl⟩;go_wp2_with fail;refine (values_calls (some m) _).mono ?_;rintro e w2 ⟨rfl,rfl⟩;have hb:=heap_alloc_new w (.cells #[.map (some m)] 186 (0,0));have HM:=Lib.hid (own_keep HO.out (((Upd.refl [] w).alloc (.cells #[.map (some m)] 186)).block m HO.out.lt (by simp)));have HCL:Hid ((w.alloc (.cells #[.map (some m)] 186)).cell? ⟨w.heap.size,0,none⟩=some (.map (some m))):=cell_at hb rfl;clear hb;go_wp2_with fail;refine (sorted_empty w.heap.size m _ D _ (by simp) HCL.out HM.out hsz hD).mono ?_;rintro e w3 ⟨a,c,rfl,hu⟩;have HU:=Lib.hid (((Upd.refl [] w).alloc (.cells #[.map (some m)] 186)).trans hu);clear hu;go_wp2_with fail;go_ret2;exact ⟨a,c,rfl,HU.out⟩
end Go.Proofs.YtfkopmhpppeheaaGreat
