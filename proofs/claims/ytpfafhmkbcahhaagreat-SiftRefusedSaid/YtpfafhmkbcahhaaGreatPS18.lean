import Derived.Test.YtpfafhmkbcahhaaGreatPS9
import Derived.Test.YtpfafhmkbcahhaaGreatPS17
namespace Go.Proofs.YtpfafhmkbcahhaaGreat
theorem MakeR.is_new {K K':KV} {v:Int} {lo hi r:Nat} {c:Int} (M:MakeR K v lo hi r c K') (h0:K.fitsE v lo hi=0) (hne:lo≠hi) (hno:∀ s,¬ K.At s v.toNat lo hi) (hu:K.A.used≠K.A.places):c=0∧K.Made v.toNat lo hi r K':=by
  cases M with
  | bad h=>exact absurd h0 h
  | full _ hs _ =>
    rcases hs with hs | hs
    · exact absurd hs.1 hne
    · exact absurd hs.2 (hno _)
  | old _ hs _ =>
    rcases hs with hs | hs
    · exact absurd hs.1 hne
    · exact absurd hs.2 (hno _)
  | nodes _ _ _ h=>exact absurd h hu
  | new _ _ _ h=>exact ⟨rfl,h⟩
structure Plain (K:KV) (n m:Nat):Prop where
  ok:K.Ok
  uni:K.Uni
  vr:K.vars=n
  lv:∀ v,v < n→K.lev v=v
  pl:K.A.places=m
theorem Plain.ext {K K':KV} {n m:Nat} (h:Plain K n m) (e:K.Ext K') (hk:K'.Ok) (hu:K'.Uni):Plain K' n m :=
  ⟨hk,hu,e.vr.trans h.vr,fun v hv=>(e.lev v).trans (h.lv v hv),e.pl.trans h.pl⟩
theorem plain_new {n m:Nat} (h1:1≤n) (hn:n≤64) (h2:2≤m) (hm:m≤1048576):Plain (KV.new n m) n m:=by
  refine ⟨KV.new_ok h1 hn h2 hm,(TInv.new n m).uni (KV.new_ok h1 hn h2 hm).wf,rfl,fun v hv=>by simp [KV.lev,KV.new,hv],rfl⟩
theorem Plain.var {K K':KV} {n m v r:Nat} {c:Int} (h:Plain K n m) (hv:v < n) (hno:∀ s,¬ K.At s v 0 1) (hu:K.A.used < m) (M:MakeR K (v:Int) 0 1 r c K'):c=0∧K.Made v 0 1 r K':=by
  have hvr:=h.vr;have hpl:=h.pl;refine M.is_new (KV.fits_ok (by omega) (h.ok.tk_const (by omega)) (h.ok.tk_const (by omega)) fun _=>?_) (by omega) (by simpa using hno) (by omega);rw [h.lv v hv,h.ok.wf.dep_const (by omega),h.ok.wf.dep_const (by omega)];omega
structure TwoV (K:KV) (n m r1 r2:Nat):Prop where
  pl:Plain K n m
  us:K.A.used=4
  tk:∀ x,K.A.tk x=true↔x=0∨x=1∨x=r1∨x=r2
  d1:∀ y,K.den r1 y=y 0
  d2:∀ y,K.den r2 y=y 1
  h1:∀ x,K.hold x≤1
theorem opB_and (a b:Bool):opB 8 a b=(a && b):=by cases a <;> cases b <;> rfl
theorem opB_xor (a b:Bool):opB 6 a b=(a != b):=by cases a <;> cases b <;> rfl
theorem TwoV.parts {K K':KV} {n m r1 r2:Nat} (h:TwoV K n m r1 r2) (hn:2≤n) (e:K.Ext K') (k':K'.Ok) (u':K'.Uni) {t:(Nat→Bool)→Bool} (ht:∀ y,t y=(y 0 && y 1)) (hnew:∀ x,K'.A.tk x=true→K.A.tk x=false→K.SubN t (K'.den x)) (x:Nat) (hx:K'.A.tk x=true) :
    (x=0∨x=1∨x=r1∨x=r2)∨∀ y,K'.den x y=(y 0 && y 1):=by
  have wf:=h.pl.ok.wf
  have can:∀ {a b:Nat},K'.A.tk a=true→K'.A.tk b=true→(∀ y,K'.den a y=K'.den b y)→a=b:=fun ha hb h=>KV.canon k'.wf k'.ord u' _ _ _ ha hb (Nat.le_refl _) h
  have t2:K.A.tk r2=true:=(h.tk r2).2 (by simp)
  cases hk:K.A.tk x with
  | true=>exact .inl ((h.tk x).1 hk)
  | false =>
    obtain ⟨l,a,hl⟩:=hnew x hx hk;have hvr:=h.pl.vr;have l0:=h.pl.lv 0 (by omega);have l1:=h.pl.lv 1 (by omega)
    have m0:∀ y,K.mix l a y 0=if 0 < l then a 0 else y 0:=fun y=>by simp only [KV.mix,l0]; congr 1; simp; omega
    have m1:∀ y,K.mix l a y 1=if 1 < l then a 1 else y 1:=fun y=>by simp only [KV.mix,l1]; congr 1; simp; omega
    have hd:∀ y,K'.den x y=((if 0 < l then a 0 else y 0) && (if 1 < l then a 1 else y 1)):=fun y=>by rw [hl,ht,m0,m1]
    by_cases h0:0 < l
    · left
      simp only [h0,if_true] at hd
      cases ha:a 0 with
      | false =>
        left
        refine can hx (k'.tk_const (by omega)) fun y=>?_
        rw [hd,ha,K'.den_const (by omega)]; simp
      | true =>
        by_cases h1:1 < l
        · simp only [h1,if_true] at hd
          cases hb:a 1 with
          | false =>
            left
            refine can hx (k'.tk_const (by omega)) fun y=>?_
            rw [hd,ha,hb,K'.den_const (by omega)]; simp
          | true =>
            right; left
            refine can hx (k'.tk_const (by omega)) fun y=>?_
            rw [hd,ha,hb,K'.den_const (by omega)]; simp
        · right; right; right
          simp only [h1,if_false] at hd
          refine can hx (e.tk t2) fun y=>?_
          rw [hd,ha,e.den wf y t2,h.d2]; simp
    · right
      intro y
      rw [hd]; simp only [h0,if_false]
      rw [if_neg (by omega)]
theorem TwoV.fits {K:KV} {n m r1 r2:Nat} (h:TwoV K n m r1 r2) (hn:2≤n) (hm:6≤m) {t:(Nat→Bool)→Bool} (ht:∀ y,t y=(y 0 && y 1)):¬ NoFit K (K.SubN t):=by
  rintro ⟨K',M,g,hk,hu,R,hus,_⟩;have hp:=(h.pl.ext R.ext hk hu).pl;have parts:=h.parts hn R.ext hk hu ht R.new
  by_cases hf:∃ f,K'.A.tk f=true∧∀ y,K'.den f y=(y 0 && y 1)
  · obtain ⟨f,tf,df⟩:=hf
    have:=K'.used_le hk.wf (l:=[0,1,r1,r2,f]) fun x hx=>by
      rcases parts x hx with h | h
      · simp; omega
      · have:x=f:=KV.canon hk.wf hk.ord hu _ _ _ hx tf (Nat.le_refl _) fun y=>by rw [h,df]
        simp [this]
    simp at this; omega
  · have:=K'.used_le hk.wf (l:=[0,1,r1,r2]) fun x hx=>by
      rcases parts x hx with h | h
      · simp; omega
      · exact absurd ⟨x,hx,h⟩ hf
    simp at this; omega
structure ThreeN (K:KV) (n m r1 r2 f:Nat):Prop where
  pl:Plain K n m
  us:K.A.used=5
  tk:∀ x,K.A.tk x=true↔x=0∨x=1∨x=r1∨x=r2∨x=f
  d1:∀ y,K.den r1 y=y 0
  d2:∀ y,K.den r2 y=y 1
  df:∀ y,K.den f y=(y 0 && y 1)
  f2:2≤f
  hf:K.hold f=1
theorem TwoV.and {K K':KV} {n m r1 r2 f:Nat} {c:Int} (h:TwoV K n m r1 r2) (hn:2≤n) (hm:6≤m) (k':K'.Ok) (u':K'.Uni) (O:OpR K (K.fun3 (fun x y _=>opB 8 x y) r1 r2 0) f c K'):c=0∧ThreeN K' n m r1 r2 f:=by
  have ht:∀ y,K.fun3 (fun x y _=>opB 8 x y) r1 r2 0 y=(y 0 && y 1):=fun y=>by simp only [KV.fun3,opB_and,h.d1,h.d2]
  rcases O with ⟨rfl,O⟩ | ⟨_,_,_,s,_,_,hs⟩ | ⟨_,_,_,hno⟩
  · have wf:=h.pl.ok.wf
    have df:∀ y,K'.den f y=(y 0 && y 1):=fun y=>by rw [O.den,ht]
    have t1:K.A.tk r1=true:=(h.tk r1).2 (by simp);have t2:K.A.tk r2=true:=(h.tk r2).2 (by simp)
    have d1:∀ y,K'.den r1 y=y 0:=fun y=>by rw [O.ext.den wf y t1,h.d1]
    have d2:∀ y,K'.den r2 y=y 1:=fun y=>by rw [O.ext.den wf y t2,h.d2]
    have n0:f≠0:=by
      rintro rfl
      have:=df fun _=>true
      rw [K'.den_const (by omega)] at this; cases this
    have n1:f≠1:=by
      rintro rfl
      have:=df fun _=>false
      rw [K'.den_const (by omega)] at this; cases this
    have nr1:f≠r1:=by
      rintro rfl
      have a:=df fun v=>v == 0
      have b:=d1 fun v=>v == 0
      rw [a] at b; cases b
    have nr2:f≠r2:=by
      rintro rfl
      have a:=df fun v=>v == 1
      have b:=d2 fun v=>v == 1
      rw [a] at b; cases b
    have r10:r1≠0:=by
      rintro rfl
      have:=d1 fun _=>true
      rw [K'.den_const (by omega)] at this; cases this
    have r11:r1≠1:=by
      rintro rfl
      have:=d1 fun _=>false
      rw [K'.den_const (by omega)] at this; cases this
    have r20:r2≠0:=by
      rintro rfl
      have:=d2 fun _=>true
      rw [K'.den_const (by omega)] at this; cases this
    have r21:r2≠1:=by
      rintro rfl
      have:=d2 fun _=>false
      rw [K'.den_const (by omega)] at this; cases this
    have r12:r1≠r2:=by
      rintro rfl
      have a:=d1 fun v=>v == 0
      have b:=d2 fun v=>v == 0
      rw [a] at b; cases b
    have tk:∀ x,K'.A.tk x=true↔x=0∨x=1∨x=r1∨x=r2∨x=f:=by
      intro x
      constructor
      · intro hx
        rcases h.parts hn O.ext k' u' ht O.new x hx with h | h
        · omega
        · have:x=f:=KV.canon k'.wf k'.ord u' _ _ _ hx O.tk (Nat.le_refl _) fun y=>by rw [h,df]
          omega
      · rintro (rfl | rfl | rfl | rfl | rfl)
        · exact k'.tk_const (by omega)
        · exact k'.tk_const (by omega)
        · exact O.ext.tk t1
        · exact O.ext.tk t2
        · exact O.tk
    have hle:=K'.used_le k'.wf (l:=[0,1,r1,r2,f]) fun x hx=>by
      have:=(tk x).1 hx
      simp; omega
    have hge:=K'.used_ge k'.wf (l:=[0,1,r1,r2,f]) (by simp; omega) fun x hx=>(tk x).2 (by simpa using hx)
    have hf0:K.hold f=0:=by
      by_cases hp:0 < K.hold f
      · have:=(h.tk f).1 (wf.ht f hp).2
        omega
      · omega
    refine ⟨rfl,h.pl.ext O.ext k' u',by simp at hle hge; omega,tk,d1,d2,df,by omega,?_⟩
    rw [O.hd,hf0]; simp; omega
  · have:=h.h1 s; omega
  · exact (h.fits hn hm ht hno).elim
theorem ThreeN.xor {K K':KV} {n m r1 r2 f g:Nat} {c:Int} (h:ThreeN K n m r1 r2 f) (k':K'.Ok) (u':K'.Uni) (O:OpR K (K.fun3 (fun x y _=>opB 6 x y) f f 0) g c K'):c=0∧g=0∧ThreeN K' n m r1 r2 f:=by
  have ok:=h.pl.ok
  have ht:∀ y,K.den 0 y=K.fun3 (fun x y _=>opB 6 x y) f f 0 y:=fun y=>by
    rw [K.den_const (by omega)]
    simp only [KV.fun3,opB_xor]
    cases K.den f y <;> rfl
  have t0:=ok.tk_const (r:=0) (by omega)
  have hh:K.hold 0 < 65535:=by
    by_cases h0:0 < K.hold 0
    · have:=(ok.wf.ht 0 h0).1; omega
    · omega
  obtain ⟨e1,e2,Q⟩:=O.live ok k' u' h.pl.uni t0 ht hh;clear O;subst e1 e2;have O:=Q;have same:=O.same ok k' u' t0 ht;have t1:K.A.tk r1=true:=(h.tk r1).2 (by simp);have t2:K.A.tk r2=true:=(h.tk r2).2 (by simp);have tf:K.A.tk f=true:=(h.tk f).2 (by simp);refine ⟨rfl,rfl,h.pl.ext O.ext k' u',?_,fun x=>(same x).trans (h.tk x),fun y=>by rw [O.ext.den ok.wf y t1,h.d1],fun y=>by rw [O.ext.den ok.wf y t2,h.d2],fun y=>by rw [O.ext.den ok.wf y tf,h.df],h.f2,by rw [O.hd,h.hf]; simp⟩
  have a:=K'.used_le k'.wf (l:=K.lives) fun x hx=>KV.mem_lives.2 ((same x).1 hx)
  have b:=K'.used_ge k'.wf K.lives_nodup fun x hx=>(same x).2 (KV.mem_lives.1 hx)
  rw [KV.lives_len ok.wf] at a b;have:=h.us;omega
end Go.Proofs.YtpfafhmkbcahhaaGreat
namespace Go.Proofs.YtpfafhmkbcahhaaGreat
structure TwoW (K:KV) (n m a b r1 r2:Nat):Prop where
  ab:a < b∧b < n
  pl:Plain K n m
  us:K.A.used=4
  tk:∀ x,K.A.tk x=true↔x=0∨x=1∨x=r1∨x=r2
  d1:∀ y,K.den r1 y=y a
  d2:∀ y,K.den r2 y=y b
  h1:∀ x,K.hold x≤1
theorem TwoW.parts {K K':KV} {n m a b r1 r2:Nat} (h:TwoW K n m a b r1 r2) (e:K.Ext K') (k':K'.Ok) (u':K'.Uni) {t:(Nat→Bool)→Bool} (ht:∀ y,t y=(y a && y b)) (hnew:∀ x,K'.A.tk x=true→K.A.tk x=false→K.SubN t (K'.den x)) (x:Nat) (hx:K'.A.tk x=true) :
    (x=0∨x=1∨x=r1∨x=r2)∨∀ y,K'.den x y=(y a && y b):=by
  have wf:=h.pl.ok.wf
  have can:∀ {c d:Nat},K'.A.tk c=true→K'.A.tk d=true→(∀ y,K'.den c y=K'.den d y)→c=d:=fun ha hb h=>KV.canon k'.wf k'.ord u' _ _ _ ha hb (Nat.le_refl _) h
  have t2:K.A.tk r2=true:=(h.tk r2).2 (by simp)
  cases hk:K.A.tk x with
  | true=>exact .inl ((h.tk x).1 hk)
  | false =>
    obtain ⟨l,z,hl⟩:=hnew x hx hk;have hvr:=h.pl.vr;have hab:=h.ab;have l0:=h.pl.lv a (by omega);have l1:=h.pl.lv b (by omega)
    have m0:∀ y,K.mix l z y a=if a < l then z a else y a:=fun y=>by simp only [KV.mix,l0]; congr 1; simp; omega
    have m1:∀ y,K.mix l z y b=if b < l then z b else y b:=fun y=>by simp only [KV.mix,l1]; congr 1; simp; omega
    have hd:∀ y,K'.den x y=((if a < l then z a else y a) && (if b < l then z b else y b)):=fun y=>by rw [hl,ht,m0,m1]
    by_cases h0:a < l
    · left
      simp only [h0,if_true] at hd
      cases ha:z a with
      | false =>
        left
        refine can hx (k'.tk_const (by omega)) fun y=>?_
        rw [hd,ha,K'.den_const (by omega)]; simp
      | true =>
        by_cases h1:b < l
        · simp only [h1,if_true] at hd
          cases hb:z b with
          | false =>
            left
            refine can hx (k'.tk_const (by omega)) fun y=>?_
            rw [hd,ha,hb,K'.den_const (by omega)]; simp
          | true =>
            right; left
            refine can hx (k'.tk_const (by omega)) fun y=>?_
            rw [hd,ha,hb,K'.den_const (by omega)]; simp
        · right; right; right
          simp only [h1,if_false] at hd
          refine can hx (e.tk t2) fun y=>?_
          rw [hd,ha,e.den wf y t2,h.d2]; simp
    · right
      intro y
      rw [hd]; simp only [h0,if_false]
      rw [if_neg (by omega)]
theorem TwoW.fits {K:KV} {n m a b r1 r2:Nat} (h:TwoW K n m a b r1 r2) (hm:6≤m) {t:(Nat→Bool)→Bool} (ht:∀ y,t y=(y a && y b)):¬ NoFit K (K.SubN t):=by
  rintro ⟨K',M,g,hk,hu,R,hus,_⟩;have hp:=(h.pl.ext R.ext hk hu).pl;have parts:=h.parts R.ext hk hu ht R.new
  by_cases hf:∃ f,K'.A.tk f=true∧∀ y,K'.den f y=(y a && y b)
  · obtain ⟨f,tf,df⟩:=hf
    have:=K'.used_le hk.wf (l:=[0,1,r1,r2,f]) fun x hx=>by
      rcases parts x hx with h | h
      · simp; omega
      · have:x=f:=KV.canon hk.wf hk.ord hu _ _ _ hx tf (Nat.le_refl _) fun y=>by rw [h,df]
        simp [this]
    simp at this; omega
  · have:=K'.used_le hk.wf (l:=[0,1,r1,r2]) fun x hx=>by
      rcases parts x hx with h | h
      · simp; omega
      · exact absurd ⟨x,hx,h⟩ hf
    simp at this; omega
structure ThreeW (K:KV) (n m a b r1 r2 f:Nat):Prop where
  pl:Plain K n m
  us:K.A.used=5
  tk:∀ x,K.A.tk x=true↔x=0∨x=1∨x=r1∨x=r2∨x=f
  d1:∀ y,K.den r1 y=y a
  d2:∀ y,K.den r2 y=y b
  df:∀ y,K.den f y=(y a && y b)
  f2:2≤f
  hf:K.hold f=1
theorem TwoW.and {K K':KV} {n m a b r1 r2 f:Nat} {c:Int} (h:TwoW K n m a b r1 r2) (hm:6≤m) (k':K'.Ok) (u':K'.Uni) (O:OpR K (K.fun3 (fun x y _=>opB 8 x y) r1 r2 0) f c K'):c=0∧ThreeW K' n m a b r1 r2 f:=by
  have ht:∀ y,K.fun3 (fun x y _=>opB 8 x y) r1 r2 0 y=(y a && y b):=fun y=>by simp only [KV.fun3,opB_and,h.d1,h.d2]
  rcases O with ⟨rfl,O⟩ | ⟨_,_,_,s,_,_,hs⟩ | ⟨_,_,_,hno⟩
  · have wf:=h.pl.ok.wf
    have df:∀ y,K'.den f y=(y a && y b):=fun y=>by rw [O.den,ht]
    have t1:K.A.tk r1=true:=(h.tk r1).2 (by simp);have t2:K.A.tk r2=true:=(h.tk r2).2 (by simp)
    have d1:∀ y,K'.den r1 y=y a:=fun y=>by rw [O.ext.den wf y t1,h.d1]
    have d2:∀ y,K'.den r2 y=y b:=fun y=>by rw [O.ext.den wf y t2,h.d2]
    have n0:f≠0:=by
      rintro rfl
      have:=df fun _=>true
      rw [K'.den_const (by omega)] at this; cases this
    have n1:f≠1:=by
      rintro rfl
      have:=df fun _=>false
      rw [K'.den_const (by omega)] at this; cases this
    have nr1:f≠r1:=by
      rintro rfl
      have aa:=df fun v=>v == a
      have bb:=d1 fun v=>v == a
      rw [aa] at bb; simp at bb; have hh:=h.ab; omega
    have nr2:f≠r2:=by
      rintro rfl
      have aa:=df fun v=>v == b
      have bb:=d2 fun v=>v == b
      rw [aa] at bb; simp at bb; have hh:=h.ab; omega
    have r10:r1≠0:=by
      rintro rfl
      have:=d1 fun _=>true
      rw [K'.den_const (by omega)] at this; cases this
    have r11:r1≠1:=by
      rintro rfl
      have:=d1 fun _=>false
      rw [K'.den_const (by omega)] at this; cases this
    have r20:r2≠0:=by
      rintro rfl
      have:=d2 fun _=>true
      rw [K'.den_const (by omega)] at this; cases this
    have r21:r2≠1:=by
      rintro rfl
      have:=d2 fun _=>false
      rw [K'.den_const (by omega)] at this; cases this
    have r12:r1≠r2:=by
      rintro rfl
      have aa:=d1 fun v=>v == a
      have bb:=d2 fun v=>v == a
      rw [aa] at bb; simp at bb; have hh:=h.ab; omega
    have tk:∀ x,K'.A.tk x=true↔x=0∨x=1∨x=r1∨x=r2∨x=f:=by
      intro x
      constructor
      · intro hx
        rcases h.parts O.ext k' u' ht O.new x hx with h | h
        · omega
        · have:x=f:=KV.canon k'.wf k'.ord u' _ _ _ hx O.tk (Nat.le_refl _) fun y=>by rw [h,df]
          omega
      · rintro (rfl | rfl | rfl | rfl | rfl)
        · exact k'.tk_const (by omega)
        · exact k'.tk_const (by omega)
        · exact O.ext.tk t1
        · exact O.ext.tk t2
        · exact O.tk
    have hle:=K'.used_le k'.wf (l:=[0,1,r1,r2,f]) fun x hx=>by
      have:=(tk x).1 hx
      simp; omega
    have hge:=K'.used_ge k'.wf (l:=[0,1,r1,r2,f]) (by simp; omega) fun x hx=>(tk x).2 (by simpa using hx)
    have hf0:K.hold f=0:=by
      by_cases hp:0 < K.hold f
      · have:=(h.tk f).1 (wf.ht f hp).2
        omega
      · omega
    refine ⟨rfl,h.pl.ext O.ext k' u',by simp at hle hge; omega,tk,d1,d2,df,by omega,?_⟩
    rw [O.hd,hf0]; simp; omega
  · have:=h.h1 s; omega
  · exact (h.fits hm ht hno).elim
end Go.Proofs.YtpfafhmkbcahhaaGreat
namespace Go.Proofs.YtpfafhmkbcahhaaGreat
open Go.RowKit Go.Maps Go.ChangeMaps Go.WideShapes
theorem Hangs.var {t:(Nat→Bool)→Bool} {a:Nat} (h:∀ y,t y=y a) (v:Nat):Hangs t v↔v=a:=by
  constructor
  · rintro ⟨y,hy⟩
    rw [h,h] at hy
    by_cases e:v=a
    · exact e
    · simp [upd,Ne.symm e] at hy
  · rintro rfl
    exact ⟨fun _=>true,by rw [h,h]; simp [upd]⟩
theorem Hangs.and {t:(Nat→Bool)→Bool} {a b:Nat} (h:∀ y,t y=(y a && y b)) (v:Nat):Hangs t v↔v=a∨v=b:=by
  constructor
  · rintro ⟨y,hy⟩
    rw [h,h] at hy
    by_cases e:v=a∨v=b
    · exact e
    · simp [upd,show ¬ a=v by omega,show ¬ b=v by omega] at hy
  · intro e
    refine ⟨fun _=>true,?_⟩;rw [h,h]
    rcases e with rfl | rfl <;> simp [upd]
theorem ThreeW.free {K:KV} {m r1 r2 f:Nat} (h:ThreeW K 4 m 0 2 r1 r2 f) (hu:K.Uni):K.FreeUV ((0:Nat):Int) ((1:Nat):Int):=by
  have hk:=h.pl.ok
  have key:∀ r,K.A.tk r=true→K.vr r≠1:=by
    intro r ht e
    by_cases h2:2≤r
    · obtain ⟨p,v,hp,hpt,hpv,hv,_⟩:=hk.wf.node_at h2 ht
      have e1:=KV.vr_at hp;have hh:=hk.hangs_of hu ht (.refl h2) hp;rw [hpv] at e1 hh
      simp only [Int.toNat_natCast] at hh
      have hv1:v=1:=by omega
      subst hv1
      rcases (h.tk r).1 ht with c | c | c | c | c
      · omega
      · omega
      · subst c; have:=(Hangs.var h.d1 1).1 hh; omega
      · subst c; have:=(Hangs.var h.d2 1).1 hh; omega
      · subst c; have:=(Hangs.and h.df 1).1 hh; omega
    · obtain ⟨p,hp,hpt⟩:=ArenaV.tk_iff.1 ht
      have e1:=KV.vr_at hp;have:=hk.wf.const_var (by omega) hp;omega
  rintro r p h2 hp hpt ⟨_,hh⟩;have hcl:=hk.wf.cl r p h2 hp hpt
  rcases hh with hh | hh
  · exact key _ hcl.1 hh
  · exact key _ hcl.2 hh
theorem Plain.order {K:KV} {n m l:Nat} (h:Plain K n m) (hl:l < n):K.order.getD l 0=l:=by
  have h1:=h.ok.ord.pm.oo l (by rw [h.vr]; exact hl);have h2:=h.lv (K.order.getD l 0) (by rw [← h.vr]; exact h1.1);omega
end Go.Proofs.YtpfafhmkbcahhaaGreat
namespace Go.Proofs.YtpfafhmkbcahhaaGreat
open Go.RowKit Go.Maps Go.ChangeMaps Go.WideShapes
def tabV (t:TV) (c:Value):Value:=.agg #[.int .i64 t.n,c]
structure TIn (w:World) (Z:List Nat) (c:Value) (t:TV):Prop where
  ok:t.Ok
  row:w.ownsRow 0 96 1 c t.ws.length (flatU t.ws)
  fr:∀ k,c.ownBlock=some k→k∉Z
theorem TIn.keep {w w':World} {Z S:List Nat} {c:Value} {t:TV} (h:TIn w Z c t) (u:Upd S w w') (hS:∀ k,k∈S→k∈Z∨w.heap.size≤k):TIn w' Z c t :=
  ⟨h.ok,row_keep h.row fun k hk=>u.block k (h.row.lt k hk).2 fun hm=>by
    rcases hS k hm with h1 | h1
    · exact h.fr k hk h1
    · have:=(h.row.lt k hk).2; omega,h.fr⟩
theorem TIn.keep0 {w w':World} {Z:List Nat} {c:Value} {t:TV} (h:TIn w Z c t) (u:Upd [] w w'):TIn w' Z c t:=h.keep u (by simp)
theorem TIn.apart {w:World} {Z Z':List Nat} {c:Value} {t:TV} (h:TIn w Z c t) (hs:Sub Z w Z'):TIn w Z' c t :=
  ⟨h.ok,h.row,fun k hk hm=>by
    rcases hs k hm with h1 | h1
    · exact h.fr k hk h1
    · have:=(h.row.lt k hk).2; omega⟩
theorem TV.Ok.len_le {t:TV} (h:t.Ok):t.ws.length≤1024:=by
  have e:=h.len;have h1:=h.n16
  have h2:wordsN t.n≤1024:=by
    unfold wordsN; split
    · omega
    · have:(2:Nat) ^ (t.n - 6)≤2 ^ 10:=Nat.pow_le_pow_right (by omega) (by omega)
      omega
  omega
theorem boxT (w:World) (x y:Value):(w.alloc (.cells #[x,y] 56 (0,0))).cell? ⟨w.heap.size,0,none⟩=some x∧(w.alloc (.cells #[x,y] 56 (0,0))).cell? ⟨w.heap.size,1,none⟩=some y:=by
  have hb:=heap_alloc_new w (.cells #[x,y] 56 (0,0));exact ⟨cell_at hb rfl,cell_at hb rfl⟩
set_option maxRecDepth 100000 in
set_option maxHeartbeats 800000 in
theorem same_spec (Z:List Nat) (c d:Value) (t u:TV) (w:World) (h1:TIn w Z c t) (h2:TIn w Z d u) :
    Calls Tryz.prog 125 #[tabV t c,tabV u d] w fun e w'=>e=.returned (.bool (decide (t=u)))∧Upd [] w w':=by
  unfold tabV;obtain ⟨tn,tw⟩:=t;obtain ⟨un,uw⟩:=u;have hl1:tw.length≤1024:=h1.ok.len_le;have hl2:uw.length≤1024:=h2.ok.len_le;obtain ⟨fa,ca,hca,_⟩:=row_nil_len h1.row;obtain ⟨fb,cb,hcb,_⟩:=row_nil_len h2.row;subst hca hcb;have r1:w.ownsRow 0 96 1 (.slice fa tw.length ca) tw.length (flatU tw):=h1.row;have r2:w.ownsRow 0 96 1 (.slice fb uw.length cb) uw.length (flatU uw):=h2.row;clear h1 h2
  show Calls _ _ #[.agg #[.int .i64 tn,.slice fa tw.length ca],.agg #[.int .i64 un,.slice fb uw.length cb]] _ _
  generalize e1:tw.length=n1 at r1 hl1;generalize e2:uw.length=n2 at r2 hl2;have HT:=Lib.hid (And.intro r1 r2);have HL:=Lib.hid (And.intro e1 e2);clear r1 r2 e1 e2
  by_cases hn:tn=un
  · subst hn
    have hE:(decide ((⟨tn,tw⟩ : TV)=⟨tn,uw⟩))=decide (tw=uw):=by congr 1; simp
    rw [hE];clear hE;have HU2:=Lib.hid (((Upd.refl [] w).alloc (.cells #[.int .i64 tn,.slice fa n1 ca] 56 (0,0))).alloc (.cells #[.int .i64 tn,.slice fb n2 cb] 56 (0,0)));obtain ⟨a0,a1⟩:=boxT w (.int .i64 tn) (.slice fa n1 ca);obtain ⟨b0,b1⟩:=boxT (w.alloc (.cells #[.int .i64 tn,.slice fa n1 ca] 56 (0,0))) (.int .i64 tn) (.slice fb n2 cb);rw [World.size_alloc] at b0 b1;have q0:((w.alloc (.cells #[.int .i64 tn,.slice fa n1 ca] 56 (0,0))).alloc (.cells #[.int .i64 tn,.slice fb n2 cb] 56 (0,0))).cell? ⟨w.heap.size,0,none⟩=some (.int .i64 tn):=(((Upd.refl [] _).alloc _).cell (World.block_lt_of_cell? _ _ a0) (by simp)).trans a0;have q1:((w.alloc (.cells #[.int .i64 tn,.slice fa n1 ca] 56 (0,0))).alloc (.cells #[.int .i64 tn,.slice fb n2 cb] 56 (0,0))).cell? ⟨w.heap.size,1,none⟩=some (.slice fa n1 ca):=(((Upd.refl [] _).alloc _).cell (World.block_lt_of_cell? _ _ a1) (by simp)).trans a1;clear a0 a1
    by_cases hl:n1=n2
    · subst hl
      go_enter Tryz.func125,Tryz.ntmps125
      go_wp2_with fail
      go_loopg [5] n1 (fun g s5 wr=>∃ i:Nat,n1 - i=g∧i≤n1∧s5=.int .i64 i∧tw.take i=uw.take i∧Upd [] ((w.alloc (.cells #[.int .i64 tn,.slice fa n1 ca] 56 (0,0))).alloc (.cells #[.int .i64 tn,.slice fb n1 cb] 56 (0,0))) wr)
      case atStart=>exact ⟨0,by omega,by omega,rfl,rfl,Upd.refl _ _⟩
      case round =>
        obtain ⟨i,rfl,hi,rfl,ht,hU⟩:=hrel;have p1:=(hU.cell (World.block_lt_of_cell? _ _ q1) (by simp)).trans q1;have p2:=(hU.cell (World.block_lt_of_cell? _ _ b1) (by simp)).trans b1
        by_cases hlt:i < n1
        · obtain ⟨x,hx⟩ : ∃ x,tw[i]?=some x:=⟨_,List.getElem?_eq_getElem (by rw [HL.out.1]; exact hlt)⟩
          obtain ⟨y,hy⟩ : ∃ y,uw[i]?=some y:=⟨_,List.getElem?_eq_getElem (by rw [HL.out.2]; exact hlt)⟩;obtain ⟨ga,rfl⟩:=row_some HT.out.1 (by omega);obtain ⟨gb,rfl⟩:=row_some HT.out.2 (by omega)
          have r1:=row_keep HT.out.1 fun k hk=>(HU2.out.trans hU).block k (HT.out.1.lt k hk).2 (by simp)
          have r2:=row_keep HT.out.2 fun k hk=>(HU2.out.trans hU).block k (HT.out.2.lt k hk).2 (by simp)
          have c1:=row_cell r1 (j:=i) (u:=.int .u64 x) (by simp [flatU,hx]);have c2:=row_cell r2 (j:=i) (u:=.int .u64 y) (by simp [flatU,hy])
          have hil:(i:Int) < (n1:Int):=by omega
          clear q0 q1 b0 b1 r1 r2
          by_cases hxy:x=y
          · have hb1:(x == y)=true:=by simpa using hxy
            have HE:Hid (tw.take (i + 1)=uw.take (i + 1)∧Upd [] _ wr):=⟨by rw [List.take_add_one,List.take_add_one,ht,hx,hy,hxy],hU⟩;clear ht hU hx hy;go_wp2_with fail
            go_region
            go_wp2_with fail
            go_roundg (n1 - (i + 1))
            case measure=>omega
            case rel=>exact ⟨i + 1,rfl,by omega,by simp,HE.out.1,HE.out.2.drew⟩
          · have hb1:(x == y)=false:=by simpa using hxy
            have HE:Hid (¬ (tw=uw)∧Upd [] _ wr):=⟨fun e=>hxy (by rw [e,hy] at hx; exact (Option.some.inj hx).symm),HU2.out.trans hU⟩;clear ht hU hx hy;go_wp2_with fail
            go_region
            go_wp2_with fail;go_ret;exact ⟨by rw [decide_eq_false HE.out.1]; rfl,HE.out.2.drew⟩
        · obtain rfl:i=n1:=by omega
          have hil:¬ ((i:Int) < (i:Int)):=by omega
          have HE:Hid ((tw=uw)∧Upd [] w wr):=⟨by rw [List.take_of_length_le (by rw [HL.out.1]; omega),List.take_of_length_le (by rw [HL.out.2]; omega)] at ht; exact ht,HU2.out.trans hU⟩;clear ht hU q0 q1 b0 b1;go_wp2_with fail;go_ret;exact ⟨by rw [decide_eq_true HE.out.1]; rfl,HE.out.2⟩
    · have hl3:((n1:Int) == (n2:Int))=false:=by rw [beq_eq_false_iff_ne]; omega
      have hl4:¬ ((n1:Int)=(n2:Int)):=by omega
      have HE:Hid (¬ (tw=uw)):=fun e=>hl (by have:=HL.out; rw [e] at this; omega)
      go_enter Tryz.func125,Tryz.ntmps125
      go_wp2_with fail;go_ret;exact ⟨by rw [decide_eq_false HE.out]; rfl,HU2.out⟩
  · have hn1:((tn:Int) == (un:Int))=false:=by rw [beq_eq_false_iff_ne]; omega
    have hn4:¬ ((tn:Int)=(un:Int)):=by omega
    have hE:decide ((⟨tn,tw⟩ : TV)=⟨un,uw⟩)=false:=decide_eq_false fun e=>hn (by injection e)
    rw [hE];clear hE;have HU2:=Lib.hid (((Upd.refl [] w).alloc (.cells #[.int .i64 tn,.slice fa n1 ca] 56 (0,0))).alloc (.cells #[.int .i64 un,.slice fb n2 cb] 56 (0,0)));obtain ⟨a0,a1⟩:=boxT w (.int .i64 tn) (.slice fa n1 ca);obtain ⟨b0,b1⟩:=boxT (w.alloc (.cells #[.int .i64 tn,.slice fa n1 ca] 56 (0,0))) (.int .i64 un) (.slice fb n2 cb);rw [World.size_alloc] at b0 b1;have q0:((w.alloc (.cells #[.int .i64 tn,.slice fa n1 ca] 56 (0,0))).alloc (.cells #[.int .i64 un,.slice fb n2 cb] 56 (0,0))).cell? ⟨w.heap.size,0,none⟩=some (.int .i64 tn):=(((Upd.refl [] _).alloc _).cell (World.block_lt_of_cell? _ _ a0) (by simp)).trans a0;clear a0 a1
    go_enter Tryz.func125,Tryz.ntmps125
    go_wp2_with fail;go_ret;exact ⟨rfl,HU2.out⟩
theorem bit_mod {x:Int} (hx:U64 x) (v:Nat):(x / 2 ^ v % 2 == 1)=nb x v:=by
  obtain ⟨n,rfl⟩ : ∃ n:Nat,x=(n:Int):=⟨x.toNat,by unfold U64 at hx; omega⟩
  have e:((n:Int) / 2 ^ v % 2)=((n / 2 ^ v % 2:Nat):Int):=by push_cast; rfl
  rw [e,nb_cast,Nat.testBit_eq_decide_div_mod_eq,Bool.eq_iff_iff,beq_iff_eq,decide_eq_true_eq];omega
theorem bit_tmod {x:Int} (hx:U64 x) (v:Nat):((x / 2 ^ v).tmod 2 == 1)=nb x v:=by
  rw [← bit_mod hx,Int.tmod_eq_emod_of_nonneg (Int.ediv_nonneg hx.1 (Int.le_of_lt (Int.pow_pos (by omega))))]
set_option maxRecDepth 100000 in
set_option maxHeartbeats 800000 in
theorem tbit_spec (Z:List Nat) (c:Value) (t:TV) (x:Nat) (w:World) (h:TIn w Z c t) (hx:x < 2 ^ t.n) :
    Calls Tryz.prog 169 #[tabV t c,.int .i64 x] w fun e w'=>e=.returned (.bool (t.bit x))∧Upd [] w w':=by
  unfold tabV;have hd:=div64_lt hx;obtain ⟨w1,w2,w3⟩:=h.ok.word hd;have hlen:=h.ok.len;have hll:=h.ok.len_le;obtain ⟨fa,ca,hca,_⟩:=row_nil_len h.row;subst hca;obtain ⟨ga,rfl⟩:=row_some h.row (by have:=wordsN_pos t.n; omega);have HU:=Lib.hid ((Upd.refl [] w).alloc (.cells #[.int .i64 t.n,.slice (some ⟨ga,0,none⟩) t.ws.length ca] 56 (0,0)));obtain ⟨a0,a1⟩:=boxT w (.int .i64 t.n) (.slice (some ⟨ga,0,none⟩) t.ws.length ca)
  have r1:=row_keep h.row fun k hk=>HU.out.block k (h.row.lt k hk).2 (by simp)
  have c1:=row_cell r1 (j:=x / 64) (u:=.int .u64 (t.ws.getD (x / 64) 0)) (by rw [flatU,List.getElem?_map,w3]; rfl);have HB:Hid (((t.ws.getD (x / 64) 0 / 2 ^ (x % 64)).tmod 2 == 1)=t.bit x):=bit_tmod w1 (x % 64);generalize t.ws.getD (x / 64) 0=W at c1 HB;have hx16:x < 65536:=Nat.lt_of_lt_of_le hx (by have:(2:Nat) ^ t.n≤2 ^ 16:=Nat.pow_le_pow_right (by omega) h.ok.n16; omega)
  have hq2:(x:Int).tdiv 64=((x / 64:Nat):Int):=by rw [Int.tdiv_eq_ediv_of_nonneg (by omega)]; omega
  have hr2:(x:Int).tmod 64=((x % 64:Nat):Int):=by rw [Int.tmod_eq_emod_of_nonneg (by omega)]; omega
  have hil:((x / 64:Nat):Int) < (t.ws.length:Int):=by omega
  have hrl:((x % 64:Nat):Int) < 64:=by omega
  have hrl2:x % 64 < 64:=by omega
  generalize x / 64=xq at c1 hq2 hil;generalize x % 64=xr at HB hr2 hrl hrl2;clear h r1 w1 w2 w3 hd hx hlen;generalize t.ws.length=tl at *
  go_enter Tryz.func169,Tryz.ntmps169
  go_wp2_with fail;go_ret;exact ⟨by rw [← HB.out]; rfl,HU.out⟩
set_option maxRecDepth 100000 in
set_option maxHeartbeats 800000 in
theorem words_spec (n:Nat) (w:World) (hn:n≤16):Calls Tryz.prog 173 #[.int .i64 n] w fun e w'=>e=.returned (.int .i64 (wordsN n:Nat))∧w'=w:=by
  by_cases h6:n≤6
  · have hd:decide ((n:Int)≤6)=true:=by simp; omega
    have HW:Hid (wordsN n=1):=by
      show wordsN n=1
      unfold wordsN; rw [if_pos h6]
    go_enter Tryz.func173,Tryz.ntmps173
    go_wp2_with fail;go_ret;exact ⟨by rw [HW.out]; rfl,rfl⟩
  · have hd:decide ((n:Int)≤6)=false:=by simp; omega
    obtain ⟨m,rfl⟩ : ∃ m,n=m + 6:=⟨n - 6,by omega⟩
    have hm:m≤10:=by omega
    have hsub:IntKind.i64.wrap (((m + 6:Nat):Int) - 6)=(m:Int):=by rw [IntWalk.i64_in _ (by omega)]; omega
    have hm64:(m:Int) < 64:=by omega
    have HW:Hid (wrap64 (2 ^ m)=(wordsN (m + 6):Nat)):=by
      show _=_
      have h1:(2:Nat) ^ m≤2 ^ 10:=Nat.pow_le_pow_right (by omega) hm
      have h2:((2:Int) ^ m)=((2 ^ m:Nat):Int):=by push_cast; rfl
      have h3:wordsN (m + 6)=2 ^ m:=by
        unfold wordsN;split
        · obtain rfl:m=0:=by omega
          rfl
        · rw [Nat.add_sub_cancel]
      rw [h3,h2];generalize (2:Nat) ^ m=z at h1
      unfold wrap64; omega
    go_enter Tryz.func173,Tryz.ntmps173
    go_wp2_with fail;go_ret;exact ⟨by rw [← HW.out]; rfl,rfl⟩
end Go.Proofs.YtpfafhmkbcahhaaGreat
