import Derived.Test.YtpfafhmkbcahhaaGreatISU21
import Derived.Test.YtpfafhmkbcahhaaGreatISU14
import Derived.Test.YtpfafhmkbcahhaaGreatISU11
import Derived.Test.YtpfafhmkbcahhaaGreatISU13
import Derived.Laws.ResultCell
import Derived.Laws.Rows
import Derived.Deep.DeepCutAuto
import Derived.Deep.RegionHeld
import Derived.WalkKit
import Derived.ProofKit
import Derived.OpenShut
import Derived.ShutString
import Derived.ChangeOld
import Derived.ChangeSlices
import Derived.Below
import Derived.Deep.CutBlock
import Derived.Maps.OwnSet
set_option maxRecDepth 100000
set_option maxHeartbeats 6400000
namespace Go.Proofs.YtpfafhmkbcahhaaGreat
theorem reach_sub {K:KV} {H:((Nat->Bool)->Bool)->Prop} (h:∀ r,0<K.hold r->∃ t,H t/\∀ y,K.den r y=t y) (hk:K.Ok) {r:Nat} (hr:K.Reach r):∃ t,H t/\K.SubN t (K.den r):=by
 have key:∀ {r:Nat},K.Reach r->∃ t,H t/\∃ a,∀ y,K.den r y=t (K.mix (K.dep r) a y):=by
  intro r hr
  induction hr with
  | root h0 =>
   obtain ⟨t,ht,he⟩:=h _ h0;refine ⟨t,ht,fun _=>false,fun y=>?_⟩;rw [<- he]
   refine KV.den_same hk.wf hk.ord _ _ _ _ (hk.wf.ht _ h0).2 (Nat.le_refl _) fun v hv hd=>?_
   simp only [KV.mix];rw [if_neg (by omega)]
  | @lo q p hq h2 hp hpt ih =>
   obtain ⟨t,ht,a,he⟩:=ih;obtain ⟨_,v,hp',_,hv,hvl,h3,h4,hd⟩:=hk.wf.node_at h2 (ArenaV.tk_iff.2 ⟨p,hp,hpt⟩)
   rw [hp] at hp';cases hp'
   have hvn:p.var.toNat=v:=by omega
   have hb:=hk.ord.below hk.wf h2 hp hpt;refine ⟨t,ht,K.mix (K.dep q) a (upd (fun _=>false) v false),fun y=>?_⟩
   have e1:K.den p.lo y=K.den p.lo (K.mix (K.dep p.lo) (fun _=>false) y):=KV.den_same hk.wf hk.ord _ _ _ _ h3 (Nat.le_refl _) fun x hx hdx=>by
    simp only [KV.mix];rw [if_neg (by omega)]
   rw [e1,<- KV.den_lo hk.wf hk.ord h2 hp hpt,he,<- mix_mix K (by omega)]
   congr 1
   funext x
   simp only [KV.mix,upd,hvn]
   by_cases h5:x<K.vars/\K.lev x<K.dep q
   ·rw [if_pos h5,if_pos h5]
   ·rw [if_neg h5,if_neg h5]
    by_cases e:x=v
    ·subst e;rw [if_pos rfl,if_pos ⟨hvl,by omega⟩,if_pos rfl]
    ·rw [if_neg e]
     by_cases h6:x<K.vars/\K.lev x<K.dep p.lo
     ·rw [if_pos h6,if_pos h6,if_neg e]
     ·rw [if_neg h6,if_neg h6]
  | @hi q p hq h2 hp hpt ih =>
   obtain ⟨t,ht,a,he⟩:=ih;obtain ⟨_,v,hp',_,hv,hvl,h3,h4,hd⟩:=hk.wf.node_at h2 (ArenaV.tk_iff.2 ⟨p,hp,hpt⟩)
   rw [hp] at hp';cases hp'
   have hvn:p.var.toNat=v:=by omega
   have hb:=hk.ord.below hk.wf h2 hp hpt;refine ⟨t,ht,K.mix (K.dep q) a (upd (fun _=>false) v true),fun y=>?_⟩
   have e1:K.den p.hi y=K.den p.hi (K.mix (K.dep p.hi) (fun _=>false) y):=KV.den_same hk.wf hk.ord _ _ _ _ h4 (Nat.le_refl _) fun x hx hdx=>by
    simp only [KV.mix];rw [if_neg (by omega)]
   rw [e1,<- KV.den_hi hk.wf hk.ord h2 hp hpt,he,<- mix_mix K (by omega)]
   congr 1
   funext x
   simp only [KV.mix,upd,hvn]
   by_cases h5:x<K.vars/\K.lev x<K.dep q
   ·rw [if_pos h5,if_pos h5]
   ·rw [if_neg h5,if_neg h5]
    by_cases e:x=v
    ·subst e;rw [if_pos rfl,if_pos ⟨hvl,by omega⟩,if_pos rfl]
    ·rw [if_neg e]
     by_cases h6:x<K.vars/\K.lev x<K.dep p.hi
     ·rw [if_pos h6,if_pos h6,if_neg e]
     ·rw [if_neg h6,if_neg h6]
 obtain ⟨t,ht,a,he⟩:=key hr;exact ⟨t,ht,K.dep r,a,he⟩
def cubeF (S:Nat->Bool) (n:Nat) (y:Nat->Bool):Bool:=(List.range n).all fun v=>!S v||y v
theorem cubeF_iff {S:Nat->Bool} {n:Nat} {y:Nat->Bool}:cubeF S n y=true↔∀ v,v<n->S v=true->y v=true:=by
 unfold cubeF;rw [List.all_eq_true];constructor
 ·intro h v hv hs
  have:=h v (List.mem_range.2 hv)
  simpa [hs] using this
 ·intro h v hv
  have hv:=List.mem_range.1 hv
  cases hs:S v with
  | false=>simp
  | true=>simpa using h v hv hs
theorem cubeF_and {S T:Nat->Bool} {n:Nat} (y:Nat->Bool):(cubeF S n y&&cubeF T n y)=cubeF (fun v=>S v||T v) n y:=by
 rw [Bool.eq_iff_iff,Bool.and_eq_true,cubeF_iff,cubeF_iff,cubeF_iff];constructor
 ·rintro ⟨h1,h2⟩ v hv hs
  rcases Bool.or_eq_true_iff.1 hs with h | h
  ·exact h1 v hv h
  ·exact h2 v hv h
 ·intro h
  exact ⟨fun v hv hs=>h v hv (by simp [hs]),fun v hv hs=>h v hv (by simp [hs])⟩
theorem cubeF_none {n:Nat} (y:Nat->Bool):cubeF (fun _=>false) n y=true:=cubeF_iff.2 fun _ _ h=>by cases h
theorem cubeF_one {n v:Nat} (hv:v<n) (y:Nat->Bool):cubeF (fun u=>u == v) n y=y v:=by
 rw [Bool.eq_iff_iff,cubeF_iff];constructor
 ·intro h;exact h v hv (by simp)
 ·intro h u _ hs
  have:u=v:=by simpa using hs
  rw [this];exact h
theorem cubeF_congr {S T:Nat->Bool} {n:Nat} (h:∀ v,v<n->S v=T v) (y:Nat->Bool):cubeF S n y=cubeF T n y:=by
 rw [Bool.eq_iff_iff,cubeF_iff,cubeF_iff];exact ⟨fun k v hv hs=>k v hv (by rw [h v hv];exact hs),fun k v hv hs=>k v hv (by rw [<- h v hv];exact hs)⟩
def wt (n:Nat) (S:Nat->Bool):Nat:=((List.range n).filter S).length
theorem wt_le (n:Nat) (S:Nat->Bool):wt n S<=n:=by
 unfold wt;exact Nat.le_trans (List.length_filter_le _ _) (by simp)
theorem wt_one (n v:Nat):wt n (fun u=>u == v)<=1:=by
 unfold wt
 have:((List.range n).filter fun u=>u == v).length<=[v].length:=List.Nodup.length_le_of_subset (List.Pairwise.filter _ List.nodup_range) fun x hx=>by
  have:=(List.mem_filter.1 hx).2
  simpa using this
 simpa using this
def cands (K:KV) (n:Nat) (S:Nat->Bool):List ((Nat->Bool)->Bool):=((List.range n).filter S).map fun v=>cubeF (fun u=>S u&&decide (K.lev v<=K.lev u)) n
theorem min_by {p:Nat->Prop} (f:Nat->Nat):∀ k,(∃ v,p v/\f v<=k)->∃ v,p v/\∀ u,p u->f v<=f u
 | 0,⟨v,hv,h0⟩=>⟨v,hv,fun u _=>by omega⟩
 | k+1,⟨v,hv,hk⟩=>by
  by_cases h:∃ u,p u/\f u<=k
  ·exact min_by f k h
  ·refine ⟨v,hv,fun u hu=>?_⟩
   have:¬ f u<=k:=fun hh=>h ⟨u,hu,hh⟩
   omega
theorem sub_cands {K:KV} {n:Nat} (hn:K.vars=n) {S:Nat->Bool} {g:(Nat->Bool)->Bool} (h:K.SubN (cubeF S n) g) (h0:¬ ∀ y,g y=false) (h1:¬ ∀ y,g y=true):∃ c,c∈cands K n S/\∀ y,g y=c y:=by
 obtain ⟨l,a,hg⟩:=h
 by_cases hP:∀ v,v<n->S v=true->K.lev v<l->a v=true
 ·have hc:∀ y,g y=cubeF (fun u=>S u&&decide (l<=K.lev u)) n y:=fun y=>by
   rw [hg,Bool.eq_iff_iff,cubeF_iff,cubeF_iff];constructor
   ·intro k v hv hs
    obtain ⟨s1,s2⟩:=Bool.and_eq_true_iff.1 hs;have:=k v hv s1
    simp only [KV.mix] at this
    rwa [if_neg (by have:=of_decide_eq_true s2;omega)] at this
   ·intro k v hv hs
    simp only [KV.mix]
    by_cases hl:K.lev v<l
    ·rw [if_pos ⟨by omega,hl⟩];exact hP v hv hs hl
    ·rw [if_neg (by omega)];exact k v hv (by simp [hs];omega)
  by_cases hE:∃ v,v<n/\S v=true/\l<=K.lev v
  ·obtain ⟨v,⟨hv,hs,hl⟩,hmin⟩:=min_by (p:=fun v=>v<n/\S v=true/\l<=K.lev v) K.lev (K.lev (Classical.choose hE)) ⟨Classical.choose hE,Classical.choose_spec hE,Nat.le_refl _⟩
   refine ⟨_,List.mem_map.2 ⟨v,List.mem_filter.2 ⟨List.mem_range.2 hv,hs⟩,rfl⟩,fun y=>?_⟩;rw [hc];refine cubeF_congr (fun u hu=>?_) y
   cases hsu:S u with
   | false=>rfl
   | true =>
    simp only [Bool.true_and]
    rw [Bool.eq_iff_iff,decide_eq_true_eq,decide_eq_true_eq];exact ⟨fun h=>hmin u ⟨hu,hsu,h⟩,fun h=>by omega⟩
  ·exact absurd (fun y=>by
    rw [hc,cubeF_iff]
    intro v hv hs
    obtain ⟨s1,s2⟩:=Bool.and_eq_true_iff.1 hs
    exact absurd ⟨v,hv,s1,of_decide_eq_true s2⟩ hE) h1
 ·refine absurd (fun y=>?_) h0
  cases e:g y with
  | false=>rfl
  | true =>
   rw [hg,cubeF_iff] at e;refine absurd (fun v hv hs hl=>?_) hP;have:=e v hv hs
   simp only [KV.mix] at this
   rwa [if_pos ⟨by omega,hl⟩] at this
theorem used_le_funs {K:KV} (hk:K.Ok) (hu:K.Uni) (C:List ((Nat->Bool)->Bool)) (h:∀ x,2<=x->K.A.tk x=true->∃ c,c∈C/\∀ y,K.den x y=c y):K.A.used<=C.length+2:=by
 have ex:∀ c:(Nat->Bool)->Bool,∃ r:Nat,(∃ x,2<=x/\K.A.tk x=true/\∀ y,K.den x y=c y)->2<=r/\K.A.tk r=true/\∀ y,K.den r y=c y:=fun c=>by
  by_cases hc:∃ x,2<=x/\K.A.tk x=true/\∀ y,K.den x y=c y
  ·obtain ⟨x,hx⟩:=hc;exact ⟨x,fun _=>hx⟩
  ·exact ⟨0,fun k=>absurd k hc⟩
 have:=K.used_le hk.wf (l:=0::1::C.map fun c=>Classical.choose (ex c)) fun x hx=>by
  by_cases h2:2<=x
  ·obtain ⟨c,hc,hd⟩:=h x h2 hx
   obtain ⟨_,b2,b3⟩:=Classical.choose_spec (ex c) ⟨x,h2,hx,hd⟩
   have e:x=Classical.choose (ex c):=KV.canon hk.wf hk.ord hu _ _ _ hx b2 (Nat.le_refl _) fun y=>by rw [hd,b3]
   simp only [List.mem_cons]
   right;right
   exact List.mem_map.2 ⟨c,hc,e.symm⟩
  ·simp only [List.mem_cons];omega
 simpa using this
structure CubS (K:KV) (n:Nat) (H:List (Nat × (Nat->Bool))):Prop where
 ok:K.Ok
 uni:K.Uni
 vr:K.vars=n
 pl:K.A.places=4096
 nm:∀ r S,(r,S)∈H->K.A.tk r=true/\∀ y,K.den r y=cubeF S n y
 hd:∀ x,2<=x->K.hold x=(H.map (·.1)).count x
def wtH (n:Nat) (H:List (Nat × (Nat->Bool))):Nat:=(H.map fun p=>wt n p.2).sum
theorem wtH_append (n:Nat) (A B:List (Nat × (Nat->Bool))):wtH n (A++B)=wtH n A+wtH n B:=by simp [wtH]
theorem wtH_one (n r:Nat) (S:Nat->Bool):wtH n [(r,S)]=wt n S:=by simp [wtH]
theorem CubS.live {K:KV} {n:Nat} {H:List (Nat × (Nat->Bool))} (h:CubS K n H) {x:Nat} (h2:2<=x) (ht:K.A.tk x=true):∃ c,c∈H.flatMap (fun p=>cands K n p.2)/\∀ y,K.den x y=c y:=by
 have hk:=h.ok
 obtain ⟨t,⟨r,S,hm,rfl⟩,hs⟩:=reach_sub (H:=fun t=>∃ r S,(r,S)∈H/\t=cubeF S n) (fun r hr=>by
  have hr2:=(hk.wf.ht r hr).1;rw [h.hd r hr2] at hr;obtain ⟨p,hp,e⟩:=List.mem_map.1 (List.count_pos_iff.1 hr);obtain ⟨r',S⟩:=p
  simp only at e;subst e
  exact ⟨_,⟨r',S,hp,rfl⟩,(h.nm r' S hp).2⟩) hk (KV.live_reach hk.wf hk.pos hk.ord _ x h2 ht (Nat.le_refl _))
 obtain ⟨c,hc,hd⟩:=sub_cands h.vr hs (fun k=>by
  have:x=0:=KV.canon hk.wf hk.ord h.uni _ _ _ ht (hk.tk_const (by omega)) (Nat.le_refl _) fun y=>by rw [k,K.den_const (by omega)];rfl
  omega) (fun k=>by
  have:x=1:=KV.canon hk.wf hk.ord h.uni _ _ _ ht (hk.tk_const (by omega)) (Nat.le_refl _) fun y=>by rw [k,K.den_const (by omega)];rfl
  omega)
 exact ⟨c,List.mem_flatMap.2 ⟨(r,S),hm,hc⟩,hd⟩
theorem cands_len (K:KV) (n:Nat) (S:Nat->Bool):(cands K n S).length=wt n S:=by simp [cands,wt]
theorem candsLen (K:KV) (n:Nat) (H:List (Nat × (Nat->Bool))):(H.flatMap fun p=>cands K n p.2).length=wtH n H:=by
 rw [List.length_flatMap];unfold wtH
 congr 1
 exact List.map_congr_left fun p _=>cands_len K n p.2
theorem CubS.used {K:KV} {n:Nat} {H:List (Nat × (Nat->Bool))} (h:CubS K n H):K.A.used<=wtH n H+2:=by
 have:=used_le_funs h.ok h.uni _ fun x h2 ht=>h.live h2 ht
 rwa [candsLen] at this
theorem CubS.new {n:Nat} (h1:1<=n) (hn:n<=64):CubS (KV.new n 4096) n [] :=
 ⟨KV.new_ok h1 hn (by omega) (by omega),(TInv.new n 4096).uni (KV.new_ok h1 hn (by omega) (by omega)).wf,rfl,rfl,by simp,fun x _=>by simp [KV.hold,KV.new]⟩
theorem CubS.push {K K':KV} {n r:Nat} {S:Nat->Bool} {H:List (Nat × (Nat->Bool))} (h:CubS K n H) (k':K'.Ok) (u':K'.Uni) (e:K.Ext K') (ht:K'.A.tk r=true) (hd:∀ y,K'.den r y=cubeF S n y) (hh:∀ x,K'.hold x=K.hold x+if x=r/\2<=r then 1 else 0):CubS K' n (H++[(r,S)]):=by
 refine ⟨k',u',e.vr.trans h.vr,e.pl.trans h.pl,fun s T hm=>?_,fun x hx=>?_⟩
 ·rcases List.mem_append.1 hm with hm | hm
  ·obtain ⟨a1,a2⟩:=h.nm s T hm
   exact ⟨e.tk a1,fun y=>by rw [e.den h.ok.wf y a1,a2]⟩
  ·simp at hm
   obtain ⟨rfl,rfl⟩:=hm;exact ⟨ht,hd⟩
 ·rw [hh,h.hd x hx,List.map_append,List.count_append]
  simp only [List.map_cons,List.map_nil]
  by_cases ex:x=r
  ·subst ex;rw [if_pos ⟨rfl,hx⟩];simp
  ·rw [if_neg (fun k=>ex k.1)]
   simp [Ne.symm ex]
theorem CubS.hold_le {K:KV} {n:Nat} {H:List (Nat × (Nat->Bool))} (h:CubS K n H) (x:Nat):K.hold x<=H.length:=by
 by_cases h2:2<=x
 ·rw [h.hd x h2]
  have:=List.count_le_length (a:=x) (l:=H.map (·.1))
  simpa using this
 ·by_cases hp:0<K.hold x
  ·have:=(h.ok.wf.ht x hp).1;omega
  ·omega
theorem CubS.op {K K':KV} {n r:Nat} {code:Int} {S:Nat->Bool} {t:(Nat->Bool)->Bool} {H:List (Nat × (Nat->Bool))} (h:CubS K n H) (k':K'.Ok) (u':K'.Uni) (O:OpR K t r code K') (ht:∀ y,t y=cubeF S n y) (hl:H.length<=1000) (hw:wtH n H+wt n S+2<4096) :
  code=0/\K.Ext K'/\K'.trail=[]/\CubS K' n (H++[(r,S)]):=by
 have et:t=cubeF S n:=funext ht;subst et
 rcases O with ⟨rfl,O⟩ | ⟨_,_,_,s,_,_,hs⟩ | ⟨_,_,_,hno⟩
 ·exact ⟨rfl,O.ext,O.tr,h.push k' u' O.ext O.tk O.den O.hd⟩
 ·have:=h.hold_le s;omega
 ·exfalso
  obtain ⟨K1,M,g,k1,u1,R,hus,_,_⟩:=hno;have hpl:K1.A.places=4096:=R.ext.pl.trans h.pl
  have hb:=used_le_funs k1 u1 (H.flatMap (fun p=>cands K n p.2)++cands K n S) fun x h2 hx=>by
   by_cases h0:K.A.tk x=true
   ·obtain ⟨c,hc,hd⟩:=h.live h2 h0
    exact ⟨c,List.mem_append.2 (.inl hc),fun y=>by rw [R.ext.den h.ok.wf y h0,hd]⟩
   ·obtain ⟨c,hc,hd⟩:=sub_cands h.vr (R.new x hx (by simpa using h0)) (fun k=>by
     have:x=0:=KV.canon k1.wf k1.ord u1 _ _ _ hx (k1.tk_const (by omega)) (Nat.le_refl _) fun y=>by rw [k,K1.den_const (by omega)];rfl
     omega) (fun k=>by
     have:x=1:=KV.canon k1.wf k1.ord u1 _ _ _ hx (k1.tk_const (by omega)) (Nat.le_refl _) fun y=>by rw [k,K1.den_const (by omega)];rfl
     omega)
    exact ⟨c,List.mem_append.2 (.inr hc),hd⟩
  rw [List.length_append,candsLen,cands_len,hus,hpl] at hb;omega
theorem CubS.var {K K':KV} {n r v:Nat} {code:Int} {H:List (Nat × (Nat->Bool))} (h:CubS K n H) (k':K'.Ok) (u':K'.Uni) (hv:v<n) (M:MakeR K (v:Int) 0 1 r code K') (hl:H.length<=1000) (hw:wtH n H+2<4096) :
  code=0/\K.Ext K'/\K'.trail=[]/\CubS K' n (H++[(r,fun u=>u == v)]):=by
 have hk:=h.ok
 have hvv:v<K.vars:=by rw [h.vr];exact hv
 have hfe:K.fitsE (v:Int) 0 1=0:=KV.fits_ok (by omega) (hk.tk_const (by omega)) (hk.tk_const (by omega)) fun _=>by
  have:=(hk.ord.pm.lo v hvv).1;rw [hk.wf.dep_const (by omega),hk.wf.dep_const (by omega)];omega
 have key:∀ (K1:KV),K1.Ok->∀ s,K1.At s v 0 1->K1.A.tk s=true/\∀ y,K1.den s y=y v:=fun K1 k1 s hs=>by
  obtain ⟨h2,p,hp,hpt,e1,e2,e3⟩:=hs;refine ⟨ArenaV.tk_iff.2 ⟨p,hp,hpt⟩,fun y=>?_⟩;rw [KV.den_node k1.wf k1.ord h2 hp hpt,e2,e3,K1.den_const (by omega),K1.den_const (by omega),show p.var.toNat=v by omega]
  cases y v <;> rfl
 cases M with
 | bad h0=>exact absurd hfe h0
 | full h0 hs hm=>exact absurd (hm ▸ h.hold_le _) (by omega)
 | old h0 hs hm =>
  have hs':K.At r v 0 1:=by
   rcases hs with ⟨e,_⟩ | ⟨_,hs⟩
   ·omega
   ·simpa using hs
  obtain ⟨t1,t2⟩:=key K hk r hs';have X:=(hk.kept t1 hm).2;exact ⟨rfl,X.ext,X.tr,h.push k' u' X.ext (X.ext.tk t1) (fun y=>by rw [X.ext.den hk.wf y t1,t2,cubeF_one hv]) fun x=>by rw [X.hd];split <;> rfl⟩
 | nodes h0 hne hno hu =>
  exfalso
  have:=h.used;rw [hu,h.pl] at this;omega
 | new h0 hne hno hm =>
  have hm':K.Made v 0 1 r K':=by simpa using hm
  have hat:K'.At r v 0 1:=hm'.at_iff.2 (.inl ⟨rfl,rfl,rfl,rfl⟩);obtain ⟨t1,t2⟩:=key K' k' r hat
  have h0:K.hold r=0:=by
   by_cases hp:0<K.hold r
   ·have:=(hk.wf.ht r hp).2
    rw [hm'.no] at this;cases this
   ·omega
  refine ⟨rfl,hm'.ext,hm'.tr,h.push k' u' hm'.ext t1 (fun y=>by rw [t2,cubeF_one hv]) fun x=>?_⟩;have:=hm'.two;rw [hm'.hd]
  by_cases e:x=r
  ·subst e;rw [if_pos rfl,if_pos ⟨rfl,this⟩,h0]
  ·rw [if_neg e,if_neg (fun k=>e k.1)];rfl
theorem CubS.held {K:KV} {n r:Nat} {S:Nat->Bool} {H:List (Nat × (Nat->Bool))} (h:CubS K n H) (hm:(r,S)∈H):2<=r->0<K.hold r:=fun h2=>by
 rw [h.hd r h2,List.count_pos_iff];exact List.mem_map.2 ⟨(r,S),hm,rfl⟩
theorem CubS.drop {K K':KV} {n r:Nat} {S:Nat->Bool} {A B:List (Nat × (Nat->Bool))} (h:CubS K n (A++(r,S)::B)) (k':K'.Ok) (u':K'.Uni) (D:K.Dropped r K'):CubS K' n (A++B):=by
 have hcount:∀ x,2<=x->K'.hold x=((A++B).map (·.1)).count x:=fun x hx=>by
  have h1:=h.hd x hx;rw [List.map_append,List.map_cons,List.count_append,List.count_cons] at h1;rw [D.hd,List.map_append,List.count_append]
  by_cases e:x=r
  ·subst e
   rw [if_pos ⟨rfl,hx⟩,h1];simp
   try omega
  ·rw [if_neg (fun k=>e k.1),h1]
   simp [Ne.symm e]
 refine ⟨k',u',(by have:=D.ext.vr;rw [<- this];exact h.vr),(by have:=D.ext.pl;rw [<- this];exact h.pl),fun s T hm=>?_,hcount⟩
 have hm0:(s,T)∈A++(r,S)::B:=by
  rcases List.mem_append.1 hm with hm | hm
  ·exact List.mem_append.2 (.inl hm)
  ·exact List.mem_append.2 (.inr (List.mem_cons_of_mem _ hm))
 have ht:K'.A.tk s=true:=by
  by_cases h2:2<=s
  ·refine (k'.wf.ht s ?_).2
   rw [hcount s h2,List.count_pos_iff];exact List.mem_map.2 ⟨(s,T),hm,rfl⟩
  ·exact k'.tk_const (by omega)
 exact ⟨ht,fun y=>by rw [<- (h.nm s T hm0).2,D.ext.den k'.wf y ht]⟩
theorem CubS.empty {K K':KV} {n:Nat} (h:CubS K n []) (k':K'.Ok) (u':K'.Uni) (hv:K'.vars=K.vars) (hp:K'.A.places=K.A.places) (hh:∀ x,K'.hold x=K.hold x):CubS K' n [] :=
 ⟨k',u',hv.trans h.vr,hp.trans h.pl,by simp,fun x hx=>by rw [hh];exact h.hd x hx⟩
end Go.Proofs.YtpfafhmkbcahhaaGreat
namespace Go.Proofs.YtpfafhmkbcahhaaGreat
open Go.RowKit Go.Maps Go.ChangeMaps Go.WideShapes
def CubM (w:World) (b:Nat) (X:Nat->Prop) (n:Nat) (H:List (Nat × (Nat->Bool))) (tl:Nat):Prop :=
 ∃ (K:KV) (F:List Nat),KerAt w b K F/\(∀ k,k∈F->¬ X k)/\(∀ k,X k->k<w.heap.size)/\CubS K n H/\K.trail.length<=tl
theorem CubM.then {w w':World} {b n tl:Nat} {X Y:Nat->Prop} {S:List Nat} {H:List (Nat × (Nat->Bool))} (h:CubM w b X n H tl) (u:Upd S w w') (hS:∀ k,k∈S->X k) (hY:∀ k,Y k->(X k\/w.heap.size<=k)/\k<w'.heap.size):CubM w' b Y n H tl:=by
 obtain ⟨K,F,h1,h2,h3,h5,h6⟩:=h;refine ⟨K,F,h1.upd u fun k hk hm=>h2 k hk (hS k hm),fun k hk hy=>?_,fun k hy=>(hY k hy).2,h5,h6⟩
 rcases (hY k hy).1 with hx | hx
 ·exact h2 k hk hx
 ·have:=h1.lt k hk;omega
theorem CubM.keep0 {w w':World} {b n tl:Nat} {X:Nat->Prop} {H:List (Nat × (Nat->Bool))} (h:CubM w b X n H tl) (u:Upd [] w w'):CubM w' b X n H tl:=by
 obtain ⟨K,F,h1,h2,h3,h5,h6⟩:=h;exact ⟨K,F,h1.upd u (by simp),h2,fun k hk=>Nat.lt_of_lt_of_le (h3 k hk) u.size,h5,h6⟩
theorem CubM.mk' {w w':World} {b n tl:Nat} {X:Nat->Prop} {F F':List Nat} {K':KV} {H:List (Nat × (Nat->Bool))} (h2:∀ k,k∈F->¬ X k) (h3:∀ k,X k->k<w.heap.size) (k':KerAt w' b K' F') (u:Upd F w w') (s:Sub F w F') (c:CubS K' n H) (ht:K'.trail.length<=tl):CubM w' b X n H tl/\Prot X w w':=by
 refine ⟨⟨K',F',k',fun k hm hx=>?_,fun k hx=>Nat.lt_of_lt_of_le (h3 k hx) u.size,c,ht⟩,Prot.of u h2⟩
 rcases s k hm with h | h
 ·exact h2 k h hx
 ·have:=h3 k hx;omega
theorem exch_cub {b n tl:Nat} {l:Int} {X:Nat->Prop} {w:World} (h:CubM w b X n [] tl) (ht:tl<=1000000) :
  Calls Tryz.prog 49 #[.pointer (some ⟨b,0,none⟩),.int .i64 l] w fun e w'=>(∃ code:Int,e=.returned (.int .i64 code))/\CubM w' b X n [] (tl+1)/\Prot X w w':=by
 obtain ⟨K,_,⟨T,q,hk,rfl⟩,h2,h3,h4,h5⟩:=h
 refine (exchange_spec b l K T q w hk (by omega)).mono fun e w' P=>?_
 obtain ⟨code,K',T',q',rfl,hk',hu,hs,hc⟩:=P.ex;refine ⟨⟨code,rfl⟩,?_⟩
 rcases hc with ⟨rfl,_,rfl⟩ | ⟨m,_,_,C,N,_,_,⟨rfl,_,rfl⟩ | ⟨rfl,_,K1,X1,_,rfl⟩⟩
 ·exact CubM.mk' h2 h3 ⟨T',q',hk',rfl⟩ hu hs h4 (by omega)
 ·exact CubM.mk' h2 h3 ⟨T',q',hk',rfl⟩ hu hs h4 (by omega)
 ·exact CubM.mk' h2 h3 ⟨T',q',hk',rfl⟩ hu hs (h4.empty hk'.ok (hk'.ti.uni hk'.ok.wf) X1.vr X1.pl X1.hd) (by
   show (K1.trail++[m]).length<=_
   rw [X1.tr];simp;omega)
structure CubQ (b:Nat) (X:Nat->Prop) (n:Nat) (H:List (Nat × (Nat->Bool))) (tl:Nat) (S:Nat->Bool) (w:World) (e:Ending) (w':World):Prop where
 ex:∃ r:Nat,e=.returned (.tuple #[.int .u32 r,.int .i64 0])/\CubM w' b X n (H++[(r,S)]) tl/\Prot X w w'
theorem var_cub {b n tl v:Nat} {X:Nat->Prop} {H:List (Nat × (Nat->Bool))} {w:World} (h:CubM w b X n H tl) (hv:v<n) (hl:H.length<=1000) (hw:wtH n H+2<4096) :
  Calls Tryz.prog 104 #[.pointer (some ⟨b,0,none⟩),.int .i64 v] w fun e w'=>CubQ b X n H tl (fun u=>u == v) w e w':=by
 obtain ⟨K,_,⟨T,q,hk,rfl⟩,h2,h3,h4,h5⟩:=h
 refine (var_live b v K T q w hk).mono fun e w' P=>?_
 obtain ⟨r,code,K',T',q',rfl,M,hk',hu,hs⟩:=P.ex;obtain ⟨rfl,ex,htr,hC⟩:=h4.var hk'.ok (hk'.ti.uni hk'.ok.wf) hv M hl hw;exact ⟨r,rfl,CubM.mk' h2 h3 ⟨T',q',hk',rfl⟩ hu hs hC (by rw [htr];simp)⟩
theorem drop_cub {b n tl r:Nat} {X:Nat->Prop} {S:Nat->Bool} {A B:List (Nat × (Nat->Bool))} {w:World} (h:CubM w b X n (A++(r,S)::B) tl) :
  Calls Tryz.prog 147 #[.pointer (some ⟨b,0,none⟩),.int .u32 r] w fun e w'=>e=.returned (.int .i64 0)/\CubM w' b X n (A++B) tl/\Prot X w w':=by
 obtain ⟨K,F,hk,h2,h3,h4,h5⟩:=h;have hm:(r,S)∈A++(r,S)::B:=List.mem_append.2 (.inr (by simp));have hrl:=h4.ok.ref_lt (h4.nm r S hm).1;refine (drop_at b r K F w hk (by omega) (h4.held hm)).mono ?_;rintro e w' ⟨K',F',rfl,D,k',u,s⟩;exact ⟨rfl,CubM.mk' h2 h3 k' u s (h4.drop k'.ok k'.uni D) (by rw [D.tr];simp)⟩
theorem const_cub {b n tl:Nat} {X:Nat->Prop} {H:List (Nat × (Nat->Bool))} {w:World} (h:CubM w b X n H tl) :
  Calls Tryz.prog 109 #[.pointer (some ⟨b,0,none⟩),.bool true] w fun e w'=>CubQ b X n H tl (fun _=>false) w e w':=by
 have HK:Hid (Calls Tryz.prog 69 #[.pointer (some ⟨b,0,none⟩),.int .u32 1] w fun e w'=>e=.returned (.int .i64 0)/\CubM w' b X n (H++[(1,fun _=>false)]) tl/\Prot X w w'):=by
  obtain ⟨K,_,⟨T,q,hk,rfl⟩,h2,h3,h4,h5⟩:=h;have ht:=hk.ok.tk_const (r:=1) (by omega);refine (keep_any b 1 K T q w hk (by omega) ht).mono ?_;rintro e w' ⟨code,K',q',rfl,hc,hk',hu,hs⟩
  rcases hc with ⟨rfl,h1,_⟩ | ⟨rfl,_,rfl⟩
  ·have:=(hk.ok.wf.ht 1 (by omega)).1;omega
  ·have e0:K.keepK 1={ K with trail:=[] }:=by unfold KV.keepK;rw [if_neg (by omega)]
   have ex:K.Ext (K.keepK 1):=by rw [e0];exact KV.Ext.trail K []
   refine ⟨rfl,CubM.mk' h2 h3 ⟨T,q',hk',rfl⟩ hu (fun k hk=>.inl (hs k hk)) (h4.push hk'.ok (hk'.ti.uni hk'.ok.wf) ex (ex.tk ht) (fun y=>by rw [KV.den_const _ (by omega),cubeF_none];rfl) fun x=>?_) (by rw [KV.keepK_trail];simp)⟩
   rw [e0,if_neg (by omega)];rfl
 clear h
 go_enter Tryz.func109,Tryz.ntmps109
 go_wp2_with fail;refine HK.out.mono ?_;rintro e w1 ⟨rfl,h⟩;have HH:=Lib.hid h;clear h;go_wp2_with fail;go_ret2;exact ⟨1,rfl,HH.out⟩
def unionL (L:List (Nat->Bool)):Nat->Bool:=fun v=>L.any fun S=>S v
theorem unionL_take {L:List (Nat->Bool)} {i:Nat} {S:Nat->Bool} (h:L[i]?=some S):unionL (L.take (i+1))=fun v=>unionL (L.take i) v||S v:=by
 funext v
 unfold unionL;rw [List.take_add_one,h,List.any_append];simp
structure CubStep (b:Nat) (X:Nat->Prop) (n:Nat) (H:List (Nat × (Nat->Bool))) (tl r:Nat) (S:Nat->Bool) (w:World) (e:Ending) (w':World):Prop where
 ex:∃ r1:Nat,e=.returned (.tuple #[.int .u32 r1,.int .i64 0])/\Prot X w w' /\
  Calls Tryz.prog 147 #[.pointer (some ⟨b,0,none⟩),.int .u32 r] w' fun e2 w2=>e2=.returned (.int .i64 0)/\CubM w2 b X n (H++[(r1,S)]) tl/\Prot X w' w2
theorem and_cub {b n tl r f:Nat} {X:Nat->Prop} {S T:Nat->Bool} {H:List (Nat × (Nat->Bool))} {w:World} (h:CubM w b X n (H++[(r,S)]) tl) (hf:(f,T)∈H) (hn:n<=64) (hl:H.length<=900) (hw:wtH n H<=3900) :
  Calls Tryz.prog 112 #[.pointer (some ⟨b,0,none⟩),.int .u8 8,.int .u32 r,.int .u32 f] w fun e w'=>CubStep b X n H tl r (fun v=>S v||T v) w e w':=by
 obtain ⟨K,_,⟨T0,q,hk,rfl⟩,h2,h3,h4,h5⟩:=h;obtain ⟨a1,a2⟩:=h4.nm r S (by simp);obtain ⟨b1,b2⟩:=h4.nm f T (by simp [hf])
 refine (binary_live b 8 r f K T0 q w hk (by omega) a1 b1).mono fun e w' P=>?_
 obtain ⟨r1,code,K',T',q',rfl,O,hk',hu,hs⟩:=P.ex;have w1:=wt_le n S;have w2:=wt_le n (fun v=>S v||T v)
 obtain ⟨rfl,ex,htr,hC⟩:=h4.op (S:=fun v=>S v||T v) hk'.ok (hk'.ti.uni hk'.ok.wf) O (fun y=>by
  show opB 8 (K.den r y) (K.den f y)=_
  rw [opB_and,a2,b2,cubeF_and]) (by simp;omega) (by rw [wtH_append,wtH_one];omega)
 obtain ⟨g1,g2⟩:=CubM.mk' (tl:=tl) h2 h3 ⟨T',q',hk',rfl⟩ hu hs hC (by rw [htr];simp);rw [List.append_assoc] at g1;exact ⟨r1,rfl,g2,drop_cub (A:=H) (B:=[(r1,fun v=>S v||T v)]) g1⟩
theorem fold_cub (b n n0 tl:Nat) (X:Nat->Prop) (lv:Value) (fs:List Nat) (Ss:List (Nat->Bool)) (H:List (Nat × (Nat->Bool))) (w:World) (h:CubM w b X n H tl) (hlv:w.ownsRow n0 54 1 lv fs.length (flatRefs fs)) (hX:∀ k,lv.ownBlock=some k->X k)
  (hlen:fs.length=Ss.length) (hfs:fs.length<=64) (hm:∀ (i f:Nat) (S:Nat->Bool),fs[i]?=some f->Ss[i]?=some S->(f,S)∈H) (hn:n<=64) (hl:H.length<=900) (hw:wtH n H<=3900) :
  Calls Tryz.prog 188 #[.pointer (some ⟨b,0,none⟩),lv,.int .u8 8,.bool true] w fun e w'=>CubQ b X n H tl (unionL Ss) w e w':=by
 obtain ⟨la,lc,rfl,_⟩:=row_nil_len hlv
 have HB:Hid (Calls Tryz.prog 182 #[.pointer (some ⟨b,0,none⟩),.slice la fs.length lc] w fun e w'=>(∃ wb:Nat,e=.returned (.tuple #[.pointer (some ⟨wb,0,none⟩),.int .i64 0]))/\Upd [] w w'):=by
  obtain ⟨K,_,⟨T,q,hki,rfl⟩,_,_,h4,_⟩:=h;refine (begin_ok b K T q _ fs w hki (row_base hlv (Nat.zero_le _)) (fun r hr=>?_) (by omega)).mono ?_
  ·obtain ⟨i,hi⟩:=List.mem_iff_getElem?.1 hr
   have hil:=(List.getElem?_eq_some_iff.1 hi).1;exact (h4.nm r _ (hm i r (Ss[i]'(by omega)) hi (List.getElem?_eq_getElem (by omega)))).1
  ·rintro e w' ⟨wb,lvv,rfl,_,u,_⟩
   exact ⟨⟨wb,rfl⟩,u⟩
 have HC:=Lib.hid h;have HM:=Lib.hid hm;have HR:=Lib.hid (And.intro hlv (And.intro hX hlen));clear h hlv hX hm hlen
 go_enter Tryz.func188,Tryz.ntmps188
 go_wp2_with fail;refine HB.out.mono ?_;rintro e w1 ⟨⟨wb,rfl⟩,hu⟩;have HU1:=Lib.hid hu;clear hu;go_wp2_with fail;refine (const_cub (HC.out.keep0 HU1.out)).mono ?_;rintro e w2 hP;obtain ⟨r0,rfl,hM,hPr⟩:=hP.ex;have H0:=Lib.hid (And.intro hM ((Prot.of0 HU1.out).trans hPr));clear hP hM hPr;go_wp2_with fail
 go_loopg [12,13,34] fs.length (fun gg s12 s13 s34 wr=>∃ (i r:Nat),fs.length-i=gg/\i<=fs.length/\s12=.int .u32 r/\s13=.int .i64 0/\s34=.int .i64 i/\CubM wr b X n (H++[(r,unionL (Ss.take i))]) tl/\Prot X w wr)
 case atStart=>exact ⟨0,r0,by omega,by omega,rfl,rfl,rfl,H0.out.1,H0.out.2⟩
 case round =>
  obtain ⟨i,r,rfl,hi,rfl,rfl,rfl,hM,hPr⟩:=hrel
  by_cases hlt:i<fs.length
  ·have hil:(i:Int)<(fs.length:Int):=by omega
   obtain ⟨f,hf⟩ : ∃ f,fs[i]?=some f:=⟨_,List.getElem?_eq_getElem hlt⟩;obtain ⟨S,hS⟩ : ∃ S,Ss[i]?=some S:=⟨_,List.getElem?_eq_getElem (by rw [<- HR.out.2.2];exact hlt)⟩;obtain ⟨g,rfl⟩:=row_some HR.out.1 (by omega);have hrow:=hPr.row HR.out.1 HR.out.2.1;have cf:=row_cell hrow (j:=i) (u:=.int .u32 (f:Nat)) (by simp [flatRefs,hf]);have HST:=Lib.hid (and_cub hM (HM.out i f S hf hS) hn hl hw);rw [<- unionL_take hS] at HST;have HPR:=Lib.hid hPr;clear hM hPr hrow hf hS;go_wp2_with fail;refine HST.out.mono ?_;rintro e1 w3 hP;obtain ⟨r1,rfl,hp1,hD⟩:=hP.ex;have HD:=Lib.hid (And.intro hD hp1);clear hP hD hp1 cf;go_wp2_with fail;refine HD.out.1.mono ?_;rintro e2 w4 ⟨rfl,hM,hp2⟩;have H4:=Lib.hid (And.intro hM ((HPR.out.trans HD.out.2).trans hp2));clear hM hp2;go_wp2_with fail
   go_roundg (fs.length-(i+1))
   case measure=>omega
   case rel=>exact ⟨i+1,r1,rfl,by omega,rfl,rfl,by simp,H4.out.1,H4.out.2⟩
  ·obtain rfl:i=fs.length:=by omega
   have hil:¬ (fs.length:Int)<(fs.length:Int):=by omega
   rw [HR.out.2.2,List.take_length] at hM;have HE:=Lib.hid (And.intro hM hPr);clear hM hPr;go_wp2_with fail;go_ret2;exact ⟨r,rfl,HE.out⟩
theorem all_cub (b n n0 tl:Nat) (X:Nat->Prop) (lv:Value) (fs:List Nat) (Ss:List (Nat->Bool)) (H:List (Nat × (Nat->Bool))) (w:World) (h:CubM w b X n H tl) (hlv:w.ownsRow n0 54 1 lv fs.length (flatRefs fs)) (hX:∀ k,lv.ownBlock=some k->X k)
  (hlen:fs.length=Ss.length) (hfs:fs.length<=64) (hm:∀ (i f:Nat) (S:Nat->Bool),fs[i]?=some f->Ss[i]?=some S->(f,S)∈H) (hn:n<=64) (hl:H.length<=900) (hw:wtH n H<=3900) :
  Calls Tryz.prog 113 #[.pointer (some ⟨b,0,none⟩),lv] w fun e w'=>CubQ b X n H tl (unionL Ss) w e w':=by
 have HF:=Lib.hid (fold_cub b n n0 tl X lv fs Ss H w h hlv hX hlen hfs hm hn hl hw);clear h hlv hX hlen hm hl hw
 go_enter Tryz.func113,Tryz.ntmps113
 go_wp2_with fail;refine HF.out.mono ?_;rintro e w' hP;obtain ⟨r,rfl,hS⟩:=hP.ex;have HS:=Lib.hid hS;clear hP hS;go_wp2_with fail;go_ret2;exact ⟨r,rfl,HS.out⟩
end Go.Proofs.YtpfafhmkbcahhaaGreat
namespace Go.Proofs.YtpfafhmkbcahhaaGreat
open Go.ChangeShapes Go.WideShapes Go.ChangeAt Go.RowKit
theorem own_knob:ownKnob Tryz.prog.godebug=none:=by kernel_rfl
theorem laid_out:laidOutB Tryz.prog=true:=by kernel_rfl
theorem intSize:Tryz.prog.cellsOf 3=1:=by kernel_rfl
theorem u64Size:Tryz.prog.cellsOf 96=1:=by kernel_rfl
theorem wf_u64 {x:Int} (h:(Lit.int .u64 x).wf=true):U64 x:=by
 simp only [Lit.wf,Bool.and_eq_true,decide_eq_true_eq] at h
 have e1:IntKind.u64.min=0:=rfl;have e2:IntKind.u64.max=18446744073709551615:=rfl;unfold U64;omega
structure RowC (w:World) (k:IntKind) (a:Option Addr) (n c:Nat) (zs:List Int):Prop where
 row:RowOf w k a n zs
 nc:n<=c
 cm:c<=maxLen
 wf:∀ z,z∈zs->(Lit.int k z).wf=true
theorem RowC.of_ints {H:Type} {W:World} {k:IntKind} {cs:List Value} {x:DataW H × List MemPlace}
  (h:(cs=[.slice none 0 0]/\x=(.nil,[])) \/
  ∃ (a:Addr) (len cap:Nat) (zs:List Int),cs=[.slice (some a) len cap]/\0<=a.block/\len<=cap/\cap<=maxLen/\zs.length=(if (fun _:Nat=>true) a.block then cap else len) /\
   x=(.slice (lits k (zs.take len)) (lits k (zs.drop len)),MemPlace.row a zs.length) /\
   (∀ i,i<zs.length->W.cell? (a.add i)=some (.int k (zs.getD i 0)))/\(∀ n∈zs,(Lit.int k n).wf=true)) :
  ∃ (a:Option Addr) (n c:Nat) (Zs:List Int),cs=[.slice a n c]/\RowC W k a n c Zs:=by
 rcases h with ⟨rfl,_⟩ | ⟨a,len,cap,zs,rfl,_,hl,hm,hz,_,hc,hw⟩
 ·exact ⟨none,0,0,[],rfl,⟨rfl,Nat.zero_le _,fun i hi=>by omega⟩,Nat.le_refl _,Nat.zero_le _,fun z hz=>by cases hz⟩
 ·have hz':zs.length=cap:=by simpa using hz
  refine ⟨some a,len,cap,zs.take len,rfl,⟨by rw [List.length_take];omega,by omega,fun i hi=>⟨a,rfl,?_⟩⟩,hl,hm,fun z hz=>hw z (List.mem_of_mem_take hz)⟩;rw [hc i (by omega),List.getD_eq_getElem?_getD,List.getD_eq_getElem?_getD,List.getElem?_take_of_lt hi]
end Go.Proofs.YtpfafhmkbcahhaaGreat
namespace Go.Proofs.YtpfafhmkbcahhaaGreat
open Go.RowKit Go.Maps Go.ChangeMaps Go.WideShapes
def wideN (n:Int):Nat:=((IntKind.u64.wrap n).tmod 64).toNat+1
theorem wideN_at (n:Int):∃ v:Nat,v=wideN n/\wrap64 (1+wrap64 ((IntKind.u64.wrap n).tmod 64))=(v:Int)/\1<=v/\v<=64:=by
 have h0:=(u64_wrap_nonneg n).1;have e:(IntKind.u64.wrap n).tmod 64=(IntKind.u64.wrap n) % 64:=Int.tmod_eq_emod_of_nonneg h0;refine ⟨_,rfl,?_,by unfold wideN;omega,by unfold wideN;rw [e];omega⟩;unfold wideN;have e1:wrap64 ((IntKind.u64.wrap n) % 64)=(IntKind.u64.wrap n) % 64:=IntWalk.wrap64_in _ (by omega);rw [e,e1,IntWalk.wrap64_in _ (by omega)];omega
theorem Upd.prot {w w1 w2:World} {n:Nat} (u:Upd [] w w1) (h:Prot (fun k=>k<n) w1 w2) (hn:w.heap.size<=n):Upd [] w w2 :=
 ⟨h.os.trans u.os,h.tape.trans u.tape,h.output.trans u.output,Nat.le_trans u.size h.size,fun k hk _=>(h.block k (show k<n by omega) (Nat.lt_of_lt_of_le hk u.size)).trans (u.block k hk (by simp))⟩
structure Laid14 (nI:Int) (w:World) (e:Ending) (w':World):Prop where
 ex:∃ (b:Nat) (H:List (Nat × (Nat->Bool))),e=.returned (.pointer (some ⟨b,0,none⟩))/\CubM w' b (fun k=>k<w.heap.size) (wideN nI) H 60/\H.length<=8/\Upd [] w w'
theorem CubM.weak {w:World} {b n tl tl':Nat} {X Y:Nat->Prop} {H:List (Nat × (Nat->Bool))} (h:CubM w b X n H tl) (hy:∀ k,Y k->X k) (ht:tl<=tl'):CubM w b Y n H tl':=by
 obtain ⟨K,F,h1,h2,h3,h5,h6⟩:=h;exact ⟨K,F,h1,fun k hk hx=>h2 k hk (hy k hx),fun k hk=>h3 k (hy k hk),h5,by omega⟩
theorem laid14_spec (nI:Int) (ua va:Option Addr) (un uc vn vc:Nat) (Us Vs:List Int) (w:World) (hU:RowC w .u64 ua un uc Us) (hV:RowC w .i64 va vn vc Vs) :
  Calls Tryz.prog 52 #[.int .i64 nI,.slice ua un uc,.slice va vn vc] w fun e w'=>Laid14 nI w e w':=by
 obtain ⟨v,hv,hvw,hv1,hv64⟩:=wideN_at nI;have HV:=Lib.hid hv;have HVW:=Lib.hid hvw;have HVR:=Lib.hid hV;have HUR:=Lib.hid hU;have hvnc:=hV.nc;have hvcm:=hV.cm;have hunc:=hU.nc;have hucm:=hU.cm;unfold maxLen at hvcm hucm;clear hv hvw hV hU
 go_enter Tryz.func52,Tryz.ntmps52
 go_wp2_with fail;rw [HVW.out];refine (knew_spec v 4096 _ hv1 hv64 (by omega) (by omega)).mono ?_;rintro e w1 ⟨b,T,q,rfl,hk,hu,hs⟩;have HU1:=Lib.hid hu
 have hM0:CubM w1 b (fun k=>k<w.heap.size) v [] 0 :=
  ⟨KV.new v 4096,q.all b,⟨T,q,hk,rfl⟩,fun k hm hx=>by
   rcases hs k hm with h | h
   ·simp at h
   ·omega,fun k hk=>Nat.lt_of_lt_of_le hk hu.size,CubS.new hv1 hv64,by simp [KV.new]⟩
 have HM0:=Lib.hid hM0;obtain ⟨lm,hlm⟩ : ∃ lm,min vn 60=lm:=⟨_,rfl⟩;obtain ⟨sm,hsm⟩ : ∃ sm,min un 8=sm:=⟨_,rfl⟩
 have hlm1:lm<=vn:=by omega
 have hlm2:lm<=60:=by omega
 have hsm1:sm<=un:=by omega
 have hsm2:sm<=8:=by omega
 have hmin1:min (vn:Int) 60=(lm:Int):=by omega
 have hmin2:min (un:Int) 8=(sm:Int):=by omega
 clear hu hs hk hM0 hlm hsm;go_wp2_with fail
 go_loopg [42] lm (fun gg s42 wr=>∃ i:Nat,lm-i=gg/\i<=lm/\s42=.int .i64 i/\CubM wr b (fun k=>k<w.heap.size) v [] i/\Prot (fun k=>k<w.heap.size) w1 wr)
 case atStart=>exact ⟨0,by omega,by omega,rfl,HM0.out,Prot.refl _ _⟩
 case round =>
  obtain ⟨i,rfl,hi,rfl,hM,hP⟩:=hrel
  by_cases hlt:i<lm
  ·have hil:(i:Int)<(lm:Int):=by omega
   obtain ⟨x,hx,hc⟩:=HVR.out.row.at_ i (by omega);subst hx;have hcr:=hP.cell (World.block_lt_of_cell? _ _ hc) (HU1.out.cell0 hc);generalize Vs.getD i 0=z at *;have HX:=Lib.hid (exch_cub (l:=z) hM (by omega));have HP:=Lib.hid hP;clear hM hP hc;go_wp2_with fail;refine HX.out.mono ?_;rintro e w2 ⟨⟨code,rfl⟩,hM,hP⟩;have H2:=Lib.hid (And.intro hM (HP.out.trans hP));clear hM hP HX;go_wp2_with fail
   go_roundg (lm-(i+1))
   case measure=>omega
   case rel=>exact ⟨i+1,rfl,by omega,by simp,H2.out.1,H2.out.2⟩
  ·obtain rfl:i=lm:=by omega
   have hil:¬ ((i:Int)<(i:Int)):=by omega
   have HH:=Lib.hid (And.intro (hM.weak (tl':=60) (fun _ h=>h) hlm2) hP);clear hM hP;go_wp2_with fail
   go_loopg [56] sm (fun gg s56 wx=>∃ (j:Nat) (H:List (Nat × (Nat->Bool))),sm-j=gg/\j<=sm/\s56=.int .i64 j/\H.length=j/\wtH v H<=64*j/\CubM wx b (fun k=>k<w.heap.size) v H 60/\Prot (fun k=>k<w.heap.size) w1 wx)
   case atStart=>exact ⟨0,[],by omega,by omega,rfl,rfl,by simp [wtH],HH.out.1,HH.out.2⟩
   case round =>
    obtain ⟨j,H,rfl,hj,rfl,hHl,hHw,hM,hP⟩:=hrel
    by_cases hlt2:j<sm
    ·have hjl:(j:Int)<(sm:Int):=by omega
     obtain ⟨x,hx,hc⟩:=HUR.out.row.at_ j (by omega);subst hx;have hcr:=hP.cell (World.block_lt_of_cell? _ _ hc) (HU1.out.cell0 hc);have hlen:=HUR.out.row.len
     have hpz:Us[j]?=some (Us.getD j 0):=by
      rw [List.getD_eq_getElem?_getD,List.getElem?_eq_getElem (by omega)];rfl
     have hx64:U64 (Us.getD j 0):=wf_u64 (HUR.out.wf _ (List.mem_of_getElem? hpz));generalize Us.getD j 0=z at *;have HX64:=Lib.hid hx64
     have HVA:Hid (Calls Tryz.prog 54 #[.pointer (some ⟨b,0,none⟩)] wr fun e w'=>e=.returned (.int .i64 v)/\w'=wr):=by
      obtain ⟨K,F,h1,_,_,h4,_⟩:=hM;have:=vars_at b K F wr h1;rw [h4.vr] at this;exact this
     obtain ⟨w3,hw3⟩ : ∃ w3,wr=w3:=⟨_,rfl⟩;rw [hw3] at hM hP hcr HVA ⊢;have H3:=Lib.hid (And.intro hM (And.intro hP (And.intro hHl hHw)));have hz3:w.heap.size<=w3.heap.size:=Nat.le_trans HU1.out.size hP.size;unfold U64 at hx64;clear hM hP hc hlen hpz hHl hHw hw3;go_wp2_with fail;refine HVA.out.mono ?_;rintro e w4 ⟨rfl,rfl⟩;clear HVA;go_wp2_with fail
     go_loopg [13,62] v (fun gg s13 s62 wy=>∃ (m cnt bc:Nat) (ba:Option Addr) (L:List (Nat × (Nat->Bool))),v-m=gg/\m<=v/\s13=.slice ba cnt bc/\s62=.int .i64 m/\L.length=cnt/\cnt<=m/\wtH v L<=cnt/\CubM wy b (fun k=>k<w.heap.size\/(Value.slice ba cnt bc).ownBlock=some k) v (H++L) 60/\wy.ownsRow w.heap.size 54 1 (.slice ba cnt bc) cnt (flatRefs (L.map (·.1)))/\Prot (fun k=>k<w.heap.size) w4 wy)
     case atStart=>exact ⟨0,0,0,none,[],by omega,by omega,rfl,rfl,rfl,by omega,by simp [wtH],by
      rw [List.append_nil]
      exact H3.out.1.weak (fun k hk=>by
       rcases hk with h | h
       ·exact h
       ·simp [Value.ownBlock] at h) (Nat.le_refl _),World.ownsRow_nil _ _ _ _,Prot.refl _ _⟩
     case round =>
      obtain ⟨m,cnt,bc,ba,L,rfl,hm,rfl,rfl,hLc,hcm,hLw,hM,hR,hP⟩:=hrel
      by_cases hlt3:m<v
      ·have hml:(m:Int)<(v:Int):=by omega
       have hm64:(m:Int)<64:=by omega
       have hm0:(0:Int)<=(m:Int):=by omega
       have HBT:=Lib.hid (bitT_nb HX64.out m);unfold bitT at HBT;have hHl:=H3.out.2.2.1;have hHw:=H3.out.2.2.2
       cases hbt:(bits BinOp.and IntKind.u64 (z/2 ^ m) 1 == 1) with
       | true =>
        have HVS:=Lib.hid (var_cub (v:=m) hM hlt3 (by rw [List.length_append];omega) (by rw [wtH_append];omega));obtain ⟨tr,hr0,hr1,hr2,hr3⟩:=info_parts Tryz.infoRefS;have HIR:=Lib.hid (And.intro hr0 (And.intro hr1 (And.intro hr2 hr3)));have HR2:=Lib.hid (And.intro hR hP);clear hM hR hP hr0 hr1 hr2 hr3 hHl hHw hcr;go_wp2_with fail;refine HVS.out.mono ?_;rintro e w5 hQ;obtain ⟨r,rfl,hM5,hP5⟩:=hQ.ex
        have HR5:Hid (w5.ownsRow w.heap.size 54 1 (.slice ba cnt bc) cnt (flatRefs (L.map (·.1)))):=hP5.row HR2.out.1 fun k hk=>.inr hk
        have HM5:=Lib.hid (And.intro hM5 (HR2.out.2.trans (hP5.weak fun k hk=>.inl hk)))
        have HC1:Hid (∀ u,u∈[Value.int .u32 r]->u.oneCell'=true):=by intro u hu;simp at hu;subst hu;rfl
        have hbs:w.heap.size<=(w5.alloc (.cells #[.int .u32 r] 54 (0,0))).heap.size:=by rw [World.size_alloc];have:=HM5.out.2.size;omega
        clear hQ hM5 hP5 HVS
        go_wp2_with (at_builtin;go_must (refine wpList_append_lies _ rfl (.tmp 78) (.tmp 80) 28 rfl w.heap.size 54 tr _ 1 4 Tryz.underlying28 HIR.out.1 HIR.out.2.1 HIR.out.2.2.1 HIR.out.2.2.2 (by rfl) (by decide) _ cnt (flatRefs (L.map (·.1))) rfl (HR5.out.alloc _) ⟨w5.heap.size,0,none⟩ 1 1 [.int .u32 r] rfl rfl ?c1 HC1.out (by omega) (by unfold maxLen;omega) (by omega) hbs _ rfl ?_))
        try case c1=>exact World.news_of_block (heap_alloc_new w5 (.cells #[.int .u32 r] 54 (0,0)))
        intro g2 cap2 w6 hown hgr hat hlt6
        have HREL:Hid (CubM w6 b (fun k=>k<w.heap.size\/(Value.slice (some ⟨g2,0,none⟩) (cnt+1) cap2).ownBlock=some k) v (H++(L++[(r,fun u=>u == m)])) 60/\w6.ownsRow w.heap.size 54 1 (.slice (some ⟨g2,0,none⟩) (cnt+1) cap2) (cnt+1) (flatRefs ((L++[(r,fun u=>u == m)]).map (·.1)))/\Prot (fun k=>k<w.heap.size) w4 w6):=by
         have hu6:Upd (Value.slice ba cnt bc).ownBlock.toList w5 w6:=((Upd.refl _ w5).alloc (.cells #[.int .u32 r] 54 (0,0))).grown hgr fun k hk=>.inl (by simp [hk])
         refine ⟨?_,?_,HM5.out.2.trans (Prot.of hu6 fun k hk hx=>by
          have:=(HR5.out.lt k (by simpa using hk)).1
          omega)⟩
         ·have h1:=HM5.out.1.then (Y:=fun k=>k<w.heap.size\/(Value.slice (some ⟨g2,0,none⟩) (cnt+1) cap2).ownBlock=some k) hu6 (fun k hk=>.inr (by simpa using hk)) fun k hk=>by
           have hz:=hu6.size;have hz5:=HM5.out.2.size
           rcases hk with h | h
           ·exact ⟨.inl (.inl h),by omega⟩
           ·have hg:=(hown.lt k h).2
            refine ⟨?_,hg⟩
            simp [Value.ownBlock] at h
            rcases hat with h' | h'
            ·rw [h] at h';exact .inl (.inr h')
            ·exact .inr (by omega)
          rw [<- List.append_assoc];exact h1
         ·unfold flatRefs at hown ⊢
          rw [List.map_append,List.map_append];exact hown
        have HLW:Hid (wtH v (L++[(r,fun u=>u == m)])<=cnt+1):=by
         show _<=_
         rw [wtH_append,wtH_one];have:=wt_one v m;omega
        clear hown hgr hat hlt6 hbs;go_wp2_with fail
        go_roundg (v-(m+1))
        case measure=>omega
        case rel=>exact ⟨m+1,cnt+1,cap2,some ⟨g2,0,none⟩,L++[(r,fun u=>u == m)],rfl,by omega,by simp,by simp,by simp [hLc],by omega,HLW.out,HREL.out.1,HREL.out.2.1,HREL.out.2.2⟩
       | false =>
        have H2:=Lib.hid (And.intro hM (And.intro hR hP));clear hM hR hP hHl hHw hcr;go_wp2_with fail
        go_roundg (v-(m+1))
        case measure=>omega
        case rel=>exact ⟨m+1,cnt,bc,ba,L,rfl,by omega,rfl,by simp,hLc,by omega,hLw,H2.out.1,H2.out.2.1,H2.out.2.2⟩
      ·obtain rfl:m=v:=by omega
       have hml:¬ ((m:Int)<(m:Int)):=by omega
       have hHl:=H3.out.2.2.1;have hHw:=H3.out.2.2.2
       have hcnt64:cnt<=64:=by omega
       obtain ⟨w5,hw5⟩ : ∃ w5,wr=w5:=⟨_,rfl⟩;rw [hw5] at hM hR hP ⊢;clear hw5
       have hal:=all_cub b m w.heap.size 60 _ _ (L.map (·.1)) (L.map (·.2)) (H++L) w5 hM (by rw [List.length_map,hLc];exact hR) (fun k hk=>.inr hk) (by simp) (by simp;omega) (fun i f S h1 h2=>by
        rw [List.getElem?_map] at h1 h2
        cases hp:L[i]? with
        | none=>rw [hp] at h1;simp at h1
        | some p =>
         rw [hp] at h1 h2
         simp at h1 h2
         refine List.mem_append.2 (.inr ?_);have:=List.mem_of_getElem? hp;obtain ⟨p1,p2⟩:=p
         simp at h1 h2
         subst h1 h2
         exact this) (by omega) (by rw [List.length_append];omega) (by rw [wtH_append];omega)
       have HAL:=Lib.hid hal;have HR5:=Lib.hid (And.intro hR hP);have HLC:=Lib.hid (And.intro hLc hLw);clear hM hR hP hal hLc hLw hHl hHw hcr;go_wp2_with fail;refine HAL.out.mono ?_;rintro e w6 hQ;obtain ⟨r,rfl,hM6,hP6⟩:=hQ.ex;have H6:=Lib.hid (And.intro hM6 (And.intro (hP6.row HR5.out.1 fun k hk=>.inr hk) (HR5.out.2.trans (hP6.weak fun k hk=>.inl hk))));clear hQ hM6 hP6 HAL;go_wp2_with fail
       go_loopg [93] cnt (fun gg s93 wz=>∃ i:Nat,cnt-i=gg/\i<=cnt/\s93=.int .i64 i/\CubM wz b (fun k=>k<w.heap.size\/(Value.slice ba cnt bc).ownBlock=some k) m (H++(L.drop i++[(r,unionL (L.map (·.2)))])) 60/\Prot (fun k=>k<w.heap.size\/(Value.slice ba cnt bc).ownBlock=some k) w6 wz)
       case atStart=>exact ⟨0,by omega,by omega,rfl,by rw [List.drop_zero,<- List.append_assoc];exact H6.out.1,Prot.refl _ _⟩
       case round =>
        obtain ⟨i2,rfl,hi2,rfl,hM,hP⟩:=hrel
        by_cases hlt4:i2<cnt
        ·have hil2:(i2:Int)<(cnt:Int):=by omega
         obtain ⟨⟨f,S⟩,hf⟩ : ∃ p,L[i2]?=some p:=⟨_,List.getElem?_eq_getElem (by have:=HLC.out.1;omega)⟩
         have hrow:=hP.row H6.out.2.1 fun k hk=>.inr hk
         obtain ⟨g,rfl⟩:=row_some hrow (by omega);have cf:=row_cell hrow (flatRefs_get (i:=i2) (r:=f) (by rw [List.getElem?_map,hf];rfl))
         have hdr:L.drop i2=(f,S)::L.drop (i2+1):=by
          obtain ⟨h1,h2⟩:=List.getElem?_eq_some_iff.1 hf;rw [List.drop_eq_getElem_cons h1,h2]
         rw [hdr,List.cons_append] at hM;have HD:=Lib.hid (drop_cub hM);have HP2:=Lib.hid hP;clear hM hP hrow hf hdr;go_wp2_with fail;refine HD.out.mono ?_;rintro e w7 ⟨rfl,hM,hP⟩;have H7:=Lib.hid (And.intro hM (HP2.out.trans hP));clear hM hP HD cf;go_wp2_with fail
         go_roundg (cnt-(i2+1))
         case measure=>omega
         case rel=>exact ⟨i2+1,rfl,by omega,by simp,H7.out.1,H7.out.2⟩
        ·obtain rfl:i2=cnt:=by omega
         have hil2:¬ ((i2:Int)<(i2:Int)):=by omega
         have HE:Hid (CubM wr b (fun k=>k<w.heap.size) m (H++[(r,unionL (L.map (·.2)))]) 60/\Prot (fun k=>k<w.heap.size) w1 wr/\(H++[(r,unionL (L.map (·.2)))]).length=j+1/\wtH m (H++[(r,unionL (L.map (·.2)))])<=64*(j+1)):=by
          refine ⟨?_,(H3.out.2.1.trans H6.out.2.2).trans (hP.weak fun k hk=>.inl hk),by rw [List.length_append,H3.out.2.2.1];rfl,?_⟩
          ·have e:L.drop i2=[]:=List.drop_eq_nil_of_le (by rw [HLC.out.1];exact Nat.le_refl _)
           rw [e,List.nil_append] at hM;exact hM.weak (fun k hk=>.inl hk) (Nat.le_refl _)
          ·rw [wtH_append,wtH_one]
           have:=wt_le m (unionL (L.map (·.2)));have:=H3.out.2.2.2;omega
         clear hM hP;go_wp2_with fail
         go_roundg (sm-(j+1))
         case measure=>omega
         case rel=>exact ⟨j+1,H++[(r,unionL (L.map (·.2)))],rfl,by omega,by simp,HE.out.2.2.1,HE.out.2.2.2,HE.out.1,HE.out.2.1⟩
    ·obtain rfl:j=sm:=by omega
     have hjl:¬ ((j:Int)<(j:Int)):=by omega
     rw [HV.out] at hM;have HE:Hid (CubM wr b (fun k=>k<w.heap.size) (wideN nI) H 60/\H.length<=8/\Upd [] w wr):=⟨hM,by omega,Upd.prot HU1.out hP (Nat.le_refl _)⟩;clear hM hP;go_wp2_with fail;go_ret;exact ⟨b,H,rfl,HE.out⟩
theorem nb_orNot {a s:Int} (ha:U64 a) (hs:U64 s) {v y:Nat} (hv:v<64) (hy:y<64):U64 (orNotT a s v)/\nb (orNotT a s v) y=(nb a y||(nb s y&&!decide (v=y))):=by
 have hu:U64 (bits BinOp.andNot IntKind.u64 s (IntKind.u64.wrap (2 ^ v))):=bits_u64 _ _ _;refine ⟨bits_u64 _ _ _,?_⟩;unfold orNotT;rw [nb_or ha hu,nb_andNot hs (wrap_u64 _) hy,nb_pow hv]
structure MatB (n:Nat) (M:List Int) (B:Nat->Nat->Bool):Prop where
 len:M.length=n
 u64:∀ x,x<n->U64 (M.getD x 0)
 bit:∀ x y,x<n->y<64->nb (M.getD x 0) y=B x y
theorem MatB.row {n:Nat} {M:List Int} {B:Nat->Nat->Bool} {s:Int} (h:MatB n M B) (hn:n<=64) (hs:U64 s):∀ k,k<=n->MatB n ((List.range k).foldl (matUpd s) M) fun x y=>B x y||(decide (x<k)&&(nb s x&&(nb s y&&!decide (x=y))))
 | 0,_=>by simpa using h
 | k+1,hk=>by
  have ih:=MatB.row h hn hs k (by omega);rw [List.range_succ,List.foldl_append]
  simp only [List.foldl_cons,List.foldl_nil]
  generalize (List.range k).foldl (matUpd s) M=M1 at *;unfold matUpd;rw [bitT_nb hs]
  cases hb:nb s k with
  | false =>
   simp only [Bool.false_eq_true,if_false]
   refine ⟨ih.len,ih.u64,fun x y hx hy=>?_⟩;rw [ih.bit x y hx hy]
   by_cases e:x=k
   ·subst e;simp [hb]
   ·have:(decide (x<k+1))=decide (x<k):=by simp;omega
    rw [this]
  | true =>
   simp only [if_true]
   have hon:∀ y,y<64->U64 (orNotT (M1.getD k 0) s k)/\nb (orNotT (M1.getD k 0) s k) y=(nb (M1.getD k 0) y||(nb s y&&!decide (k=y))):=fun y hy=>nb_orNot (ih.u64 k (by omega)) hs (by omega) hy
   have hg:∀ x,(M1.set k (orNotT (M1.getD k 0) s k)).getD x 0=if x=k then orNotT (M1.getD k 0) s k else M1.getD x 0:=fun x=>by
    rw [List.getD_eq_getElem?_getD]
    by_cases e:x=k
    ·subst e;rw [List.getElem?_set_self (by rw [ih.len];omega)];simp
    ·rw [List.getElem?_set_ne (Ne.symm e),if_neg e,List.getD_eq_getElem?_getD]
   refine ⟨by simpa using ih.len,fun x hx=>?_,fun x y hx hy=>?_⟩
   ·rw [hg];split
    ·exact (hon 0 (by omega)).1
    ·exact ih.u64 x hx
   ·rw [hg]
    by_cases e:x=k
    ·subst e
     rw [if_pos rfl,(hon y hy).2,ih.bit x y hx hy]
     simp [hb]
    ·rw [if_neg e,ih.bit x y hx hy]
     have:(decide (x<k+1))=decide (x<k):=by simp;omega
     rw [this]
theorem MatB.fold {n:Nat} (hn:n<=64):∀ (ss:List Int) {M:List Int} {B:Nat->Nat->Bool},MatB n M B->(∀ s,s∈ss->U64 s)->MatB n (ss.foldl (matRow n) M) fun x y=>B x y||(ss.any fun s=>nb s x&&(nb s y&&!decide (x=y)))
 | [],M,B,h,_=>by simpa using h
 | s::ss,M,B,h,hs=>by
  have h1:=h.row hn (hs s (by simp)) n (Nat.le_refl _)
  have h1':MatB n (matRow n M s) fun x y=>B x y||(nb s x&&(nb s y&&!decide (x=y))):=by
   refine ⟨h1.len,h1.u64,fun x y hx hy=>?_⟩;have:=h1.bit x y hx hy;rw [decide_eq_true hx,Bool.true_and] at this;exact this
  have h2:=MatB.fold hn ss h1' fun t ht=>hs t (by simp [ht])
  refine ⟨h2.len,h2.u64,fun x y hx hy=>?_⟩;rw [List.foldl_cons,h2.bit x y hx hy,List.any_cons,Bool.or_assoc]
theorem MatB.zero (n:Nat):MatB n (List.replicate n 0) fun _ _=>false:=by
 have e:∀ x,(List.replicate n (0:Int)).getD x 0=0:=fun x=>by
  rw [List.getD_eq_getElem?_getD,List.getElem?_replicate];split <;> rfl
 refine ⟨by simp,fun x _=>by rw [e];unfold U64;omega,fun x y _ _=>by rw [e];simp [nb]⟩
theorem mat_bits {K:KV} {ss:List Int} (hk:K.Ok) (hu:K.Uni) (hS:SupL K K.roots ss):MatB K.vars (ss.foldl (matRow K.vars) (List.replicate K.vars 0)) fun x y=>ss.any fun s=>nb s x&&(nb s y&&!decide (x=y)):=by
 have h:=MatB.fold (n:=K.vars) hk.wf.vs.2 ss (MatB.zero _) fun s hs=>by
  obtain ⟨i,hi⟩:=List.getElem?_of_mem hs;have hl:=(List.getElem?_eq_some_iff.1 hi).1;have hr:K.roots[i]?=some (K.roots[i]'(by rw [<- hS.1];exact hl)):=List.getElem?_eq_getElem _;have hm:=List.mem_of_getElem? hr;exact ((hS.2 i _ s hr hi).bits hk hu (hk.wf.ht _ (KV.mem_roots.1 hm)).2).1
 refine ⟨h.len,h.u64,fun x y hx hy=>?_⟩;rw [h.bit x y hx hy,Bool.false_or]
end Go.Proofs.YtpfafhmkbcahhaaGreat
