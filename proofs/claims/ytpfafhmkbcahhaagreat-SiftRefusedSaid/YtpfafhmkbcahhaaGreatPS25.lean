import Derived.Test.YtpfafhmkbcahhaaGreatPS24
import Derived.Test.YtpfafhmkbcahhaaGreatPS10
import Derived.Test.YtpfafhmkbcahhaaGreatPS23
namespace Go.Proofs.YtpfafhmkbcahhaaGreat
theorem holdL_mem:∀ {H:List (TV × Nat)} {t:TV} {c:Nat},(H.map (·.1)).Nodup→(t,c)∈H→holdL H t=c
  | [],_,_,_,h=>by cases h
  | a :: H,t,c,hn,h=>by
    rw [List.map_cons,List.nodup_cons] at hn
    rcases List.mem_cons.1 h with rfl | h
    · simp [holdL]
    · have:a.1≠t:=fun e=>hn.1 (by rw [e]; exact List.mem_map.2 ⟨_,h,rfl⟩)
      simp only [holdL,if_neg this]
      exact holdL_mem hn.2 h
theorem mem_of_holdL:∀ {H:List (TV × Nat)} {t:TV},0 < holdL H t→(t,holdL H t)∈H
  | [],_,h=>by simp [holdL] at h
  | a :: H,t,h=>by
    by_cases e:a.1=t
    · simp only [holdL,if_pos e]; rw [← e]; simp
    · simp only [holdL,if_neg e] at h ⊢
      exact List.mem_cons_of_mem _ (mem_of_holdL h)
theorem mem_incL:∀ {H:List (TV × Nat)} {t u:TV} {c:Nat},(H.map (·.1)).Nodup→((u,c)∈incL H t↔(u≠t∧(u,c)∈H)∨(u=t∧c=holdL H t + 1))
  | [],t,u,c,_=>by simp [incL,holdL]
  | a :: H,t,u,c,hn=>by
    rw [List.map_cons,List.nodup_cons] at hn
    by_cases e:a.1=t
    · simp only [incL,if_pos e,holdL,List.mem_cons]
      have hno:∀ d,(t,d)∉H:=fun d hd=>hn.1 (by rw [e]; exact List.mem_map.2 ⟨_,hd,rfl⟩)
      constructor
      · rintro (h | h)
        · right
          have h1:=congrArg Prod.fst h;have h2:=congrArg Prod.snd h;exact ⟨h1.trans e,h2⟩
        · refine .inl ⟨fun h1=>hno c (by rw [← h1]; exact h),.inr h⟩
      · rintro (⟨h1,h | h⟩ | ⟨h1,h2⟩)
        · exact absurd (by rw [← e,← h]) h1
        · exact .inr h
        · left; rw [h1,h2,← e]
    · simp only [incL,if_neg e,holdL,List.mem_cons,mem_incL (t:=t) (u:=u) (c:=c) hn.2]
      constructor
      · rintro (h | h | h)
        · exact .inl ⟨fun h1=>e (by rw [← h1,← h]),.inl h⟩
        · exact .inl ⟨h.1,.inr h.2⟩
        · exact .inr h
      · rintro (⟨h1,h | h⟩ | h)
        · exact .inl h
        · exact .inr (.inl ⟨h1,h⟩)
        · exact .inr (.inr h)
theorem incL_keys (H:List (TV × Nat)) (t:TV):(incL H t).map (·.1)=if t∈H.map (·.1) then H.map (·.1) else H.map (·.1) ++ [t]:=by
  induction H with
  | nil=>simp [incL]
  | cons a H ih =>
    by_cases e:a.1=t
    · simp [incL,e]
    · simp only [incL,if_neg e,List.map_cons,ih,List.mem_cons]
      by_cases h:t∈H.map (·.1)
      · rw [if_pos h,if_pos (.inr h)]
      · rw [if_neg h,if_neg (by rintro (h1 | h1); exact e h1.symm; exact h h1)]; rfl
theorem incL_nodup {H:List (TV × Nat)} (h:(H.map (·.1)).Nodup) (t:TV):((incL H t).map (·.1)).Nodup:=by
  rw [incL_keys];split
  · exact h
  · rename_i hn
    rw [List.nodup_append];exact ⟨h,by simp,fun a ha b hb e=>by simp at hb; subst hb; subst e; exact hn ha⟩
theorem incL_len (H:List (TV × Nat)) (t:TV):(incL H t).length≤H.length + 1:=by
  have h:=congrArg List.length (incL_keys H t);rw [List.length_map] at h
  rw [h]; split <;> simp
structure Agr (K:KV) (M:MV):Prop where
  same:Same K M
  c:M.c=K.A.places
  nd:(M.held.map (·.1)).Nodup
  hl:∀ t c,(t,c)∈M.held→t.Ok∧t.n=K.vars∧∃ r,2≤r∧K.A.tk r=true∧K.hold r=c∧0 < c∧∀ y,K.den r y=t.fn y
  lh:∀ r,0 < K.hold r→∃ t c,(t,c)∈M.held∧K.hold r=c∧∀ y,K.den r y=t.fn y
theorem Agr.roots {K:KV} {M:MV} (h:Agr K M):RootsT K M.tabs:=by
  refine ⟨fun r hr=>?_,fun t ht=>?_,fun t ht=>?_⟩
  · obtain ⟨t,c,hm,_,hd⟩:=h.lh r hr
    exact ⟨t,List.mem_map.2 ⟨_,hm,rfl⟩,hd⟩
  · obtain ⟨⟨t',c⟩,hm,rfl⟩:=List.mem_map.1 ht
    obtain ⟨_,_,r,_,h2,_,_,h3⟩:=h.hl t' c hm;exact ⟨r,h2,h3⟩
  · obtain ⟨⟨t',c⟩,hm,rfl⟩:=List.mem_map.1 ht
    obtain ⟨h1,h2,_⟩:=h.hl t' c hm;exact ⟨h1,h2⟩
theorem MV.lev_flat {K:KV} {M:MV} (h:Same K M):M.lev.flatten=flatT M.tabs K.order:=by rw [← h.od]; rfl
theorem Agr.used {K:KV} {M:MV} (h:Agr K M) (hk:K.Ok) (hu:K.Uni) (hn:K.vars≤16):K.A.used=M.lev.flatten.length + 2:=by
  rw [MV.lev_flat h.same]; exact h.roots.used hk hu hn
theorem Agr.mem {K:KV} {M:MV} (h:Agr K M) (hk:K.Ok) (hu:K.Uni) (hn:K.vars≤16) {u:TV}:u∈M.lev.flatten↔∃ r,2≤r∧K.A.tk r=true∧K.tab r=u:=by
  rw [MV.lev_flat h.same]; exact h.roots.mem hk hu hn
def Names (K:KV) (r:Nat) (t:TV):Prop:=K.A.tk r=true∧∀ y,K.den r y=t.fn y
theorem Names.eq {K:KV} (hk:K.Ok) (hu:K.Uni) {r s:Nat} {t:TV} (h1:Names K r t) (h2:Names K s t):r=s :=
  KV.canon hk.wf hk.ord hu _ _ _ h1.1 h2.1 (Nat.le_refl _) fun y=>by rw [h1.2,h2.2]
theorem Names.teq {K:KV} {r:Nat} {t u:TV} (h1:Names K r t) (h2:Names K r u) (ht:t.Ok) (hu:u.Ok) (hn:t.n=u.n):t=u :=
  TV.fn_ext ht hu hn fun y=>by rw [← h1.2,← h2.2]
theorem Names.ext {K K':KV} {r:Nat} {t:TV} (h:Names K r t) (hk:K.Ok) (e:K.Ext K'):Names K' r t:=⟨e.tk h.1,fun y=>by rw [e.den hk.wf y h.1]; exact h.2 y⟩
theorem Agr.holds {K:KV} {M:MV} (h:Agr K M) (hk:K.Ok) (hu:K.Uni) {r:Nat} {t:TV} (ht:t.Ok) (hn:t.n=K.vars) (hr:Names K r t):M.holds t=K.hold r:=by
  unfold MV.holds
  by_cases h0:0 < K.hold r
  · obtain ⟨u,c,hm,hc,hd⟩:=h.lh r h0
    obtain ⟨h1,h2,_⟩:=h.hl u c hm;have:u=t:=Names.teq ⟨hr.1,hd⟩ hr h1 ht (h2.trans hn.symm);subst this;rw [holdL_mem h.nd hm,hc]
  · by_cases h1:0 < holdL M.held t
    · obtain ⟨_,_,s,h2,h3,h4,h5,h6⟩:=h.hl t _ (mem_of_holdL h1)
      have:s=r:=Names.eq hk hu ⟨h3,h6⟩ hr
      subst this; omega
    · omega
theorem Agr.holds0 {K:KV} {M:MV} (h:Agr K M) {t:TV} (hno:∀ r,¬ Names K r t):M.holds t=0:=by
  unfold MV.holds
  by_cases h1:0 < holdL M.held t
  · obtain ⟨_,_,s,h2,h3,h4,h5,h6⟩:=h.hl t _ (mem_of_holdL h1)
    exact absurd ⟨h3,h6⟩ (hno s)
  · omega
theorem const_names {K:KV} (hk:K.Ok) (b:Bool) {n:Nat}:Names K (if b then 1 else 0) (constT n b) :=
  ⟨hk.tk_const (by cases b <;> simp),fun y=>by rw [constT_fn,K.den_const (by cases b <;> simp)]; cases b <;> rfl⟩
theorem TV.isC_iff {t:TV}:t.isC=true↔∃ b,t=constT t.n b:=by
  unfold TV.isC;rw [Bool.or_eq_true,decide_eq_true_eq,decide_eq_true_eq];constructor
  · rintro (h | h)
    · exact ⟨false,h⟩
    · exact ⟨true,h⟩
  · rintro ⟨b,h⟩
    cases b
    · exact .inl h
    · exact .inr h
theorem isC_names {K:KV} (hk:K.Ok) (hu:K.Uni) (hn:K.vars≤16) {r:Nat} {t:TV} (ht:t.Ok) (htn:t.n=K.vars) (h:Names K r t):t.isC=true↔r < 2:=by
  constructor
  · intro hc
    obtain ⟨b,hb⟩:=TV.isC_iff.1 hc;have h1:=const_names hk b (n:=t.n);rw [← hb] at h1;have:=Names.eq hk hu h h1
    cases b <;> simp at this <;> omega
  · intro h2
    refine TV.isC_iff.2 ⟨r == 1,TV.fn_ext ht (mkT_ok _ (by rw [htn]; exact hn)) rfl fun y=>?_⟩;rw [← h.2,K.den_const h2,constT_fn]
theorem Agr.live {K:KV} {M:MV} (h:Agr K M) (hk:K.Ok) (hu:K.Uni) (hn:K.vars≤16) {t:TV} (ht:t.Ok) (htn:t.n=K.vars):M.isLive t=true↔∃ r,Names K r t:=by
  unfold MV.isLive;rw [Bool.or_eq_true]
  have hfl:(M.lev.any fun l=>decide (t∈l))=true↔t∈M.lev.flatten:=by
    rw [List.any_eq_true,List.mem_flatten]; simp only [decide_eq_true_eq]
  rw [hfl,h.mem hk hu hn];constructor
  · rintro (hc | ⟨r,h2,h3,h4⟩)
    · obtain ⟨b,hb⟩:=TV.isC_iff.1 hc
      refine ⟨if b then 1 else 0,?_⟩
      rw [hb]; exact const_names hk b
    · exact ⟨r,h3,fun y=>by rw [← h4,hk.tab_fn h3]⟩
  · rintro ⟨r,hr⟩
    by_cases h2:r < 2
    · exact .inl ((isC_names hk hu hn ht htn hr).2 h2)
    · exact .inr ⟨r,by omega,hr.1,hk.tab_eq hn hr.1 ht htn hr.2⟩
theorem Agr.same_kernel {K K':KV} {M:MV} (h:Agr K M) (hk:K.Ok) (e:K.Ext K') (hd:∀ x,K'.hold x=K.hold x):Agr K' M:=by
  refine ⟨h.same.ext e,h.c.trans e.pl.symm,h.nd,fun t c hm=>?_,fun r hr=>?_⟩
  · obtain ⟨h1,h2,r,h3,h4,h5,h6,h7⟩:=h.hl t c hm
    exact ⟨h1,by rw [e.vr]; exact h2,r,h3,e.tk h4,by rw [hd]; exact h5,h6,fun y=>by rw [e.den hk.wf y h4]; exact h7 y⟩
  · rw [hd] at hr
    obtain ⟨t,c,h1,h2,h3⟩:=h.lh r hr;exact ⟨t,c,h1,by rw [hd]; exact h2,fun y=>by rw [e.den hk.wf y (hk.wf.ht r hr).2]; exact h3 y⟩
theorem Agr.step {K K':KV} {M:MV} (h:Agr K M) (hk:K.Ok) (hu:K.Uni) (hk':K'.Ok) (hu':K'.Uni) (hn:K.vars≤16) {t:TV} (ht:t.Ok) (htn:t.n=K.vars) (e:K.Ext K') {r:Nat} (hr:Names K' r t)
    (hd:∀ x,K'.hold x=K.hold x + if x=r∧2≤r then 1 else 0):M.hold1E t=0∧Agr K' (M.hold1 t):=by
  have hn':K'.vars≤16:=by rw [e.vr]; exact hn
  cases hc:t.isC with
  | true =>
    have h2:=(isC_names hk' hu' hn' ht (by rw [e.vr]; exact htn) hr).1 hc;refine ⟨by unfold MV.hold1E; rw [if_pos hc],?_⟩;rw [MV.hold1,if_pos hc]
    exact h.same_kernel hk e fun x=>by rw [hd,if_neg (by omega)]; rfl
  | false =>
    have h2:2≤r:=by
      by_cases h2:2≤r
      · exact h2
      · have:=(isC_names hk' hu' hn' ht (by rw [e.vr]; exact htn) hr).2 (by omega)
        rw [hc] at this; cases this
    have hq:M.holds t=K.hold r:=by
      by_cases hl:K.A.tk r=true
      · exact h.holds hk hu ht htn ⟨hl,fun y=>by rw [← e.den hk.wf y hl]; exact hr.2 y⟩
      · have h0:K.hold r=0:=by
          by_cases h0:K.hold r=0
          · exact h0
          · exact absurd (hk.wf.ht r (by omega)).2 hl
        rw [h0]
        refine h.holds0 fun s hs=>hl ?_
        have:=Names.eq hk' hu' (hs.ext hk e) hr
        subst this; exact hs.1
    have hm:=hk'.wf.hm r;rw [hd,if_pos ⟨rfl,h2⟩] at hm;refine ⟨by unfold MV.hold1E; rw [if_neg (by rw [hc]; simp),if_neg (by omega)],?_⟩;rw [MV.hold1,if_neg (by rw [hc]; simp),if_neg (by omega)];refine ⟨⟨h.same.od.trans e.od.symm,h.same.n.trans e.vr.symm⟩,h.c.trans e.pl.symm,incL_nodup h.nd t,fun u c hm=>?_,fun x hx=>?_⟩
    · rcases (mem_incL h.nd).1 hm with ⟨h1,h3⟩ | ⟨rfl,h3⟩
      · obtain ⟨a1,a2,s,a3,a4,a5,a6,a7⟩:=h.hl u c h3
        refine ⟨a1,by rw [e.vr]; exact a2,s,a3,e.tk a4,?_,a6,fun y=>by rw [e.den hk.wf y a4]; exact a7 y⟩
        rw [hd,if_neg,a5]; rfl
        rintro ⟨rfl,_⟩;exact h1 (Names.teq (K:=K') ⟨e.tk a4,fun y=>by rw [e.den hk.wf y a4]; exact a7 y⟩ hr a1 ht (a2.trans htn.symm))
      · refine ⟨ht,by rw [e.vr]; exact htn,r,h2,hr.1,?_,by omega,hr.2⟩
        rw [hd,if_pos ⟨rfl,h2⟩,h3]
        show _=M.holds u + 1
        rw [hq]
    · by_cases ex:x=r
      · subst ex
        refine ⟨t,holdL M.held t + 1,(mem_incL h.nd).2 (.inr ⟨rfl,rfl⟩),?_,hr.2⟩;rw [hd,if_pos ⟨rfl,h2⟩]
        show _=M.holds t + 1
        rw [hq]
      · rw [hd,if_neg (fun k=>ex k.1)] at hx
        obtain ⟨u,c,a1,a2,a3⟩:=h.lh x (by omega);have hxt:=(hk.wf.ht x (by omega)).2;refine ⟨u,c,(mem_incL h.nd).2 (.inl ⟨?_,a1⟩),by rw [hd,if_neg (fun k=>ex k.1)]; exact a2,fun y=>by rw [e.den hk.wf y hxt]; exact a3 y⟩;rintro rfl;exact ex (Names.eq hk' hu' (Names.ext ⟨hxt,a3⟩ hk e) hr)
theorem Agr.roots_len {K:KV} {M:MV} (h:Agr K M) (hk:K.Ok) (hu:K.Uni) (hn:K.vars≤16):K.roots.length=M.held.length:=by
  have e:(K.roots.map K.tab).length=(M.held.map (·.1)).length:=by
    have nd:(K.roots.map K.tab).Nodup:=List.pairwise_map.2 (List.Pairwise.imp_of_mem (fun {a b} ha hb hne e=>hne (hk.tab_inj hu (hk.wf.ht a (KV.mem_roots.1 ha)).2 (hk.wf.ht b (KV.mem_roots.1 hb)).2 e)) K.roots_nodup);refine Nat.le_antisymm (List.Nodup.length_le_of_subset nd fun u hm=>?_) (List.Nodup.length_le_of_subset h.nd fun u hm=>?_)
    · obtain ⟨r,hr,rfl⟩:=List.mem_map.1 hm
      have h0:=KV.mem_roots.1 hr;obtain ⟨t,c,a1,a2,a3⟩:=h.lh r h0;obtain ⟨b1,b2,_⟩:=h.hl t c a1;exact List.mem_map.2 ⟨_,a1,(hk.tab_eq hn (hk.wf.ht r h0).2 b1 b2 a3).symm⟩
    · obtain ⟨⟨t,c⟩,hm',rfl⟩:=List.mem_map.1 hm
      obtain ⟨b1,b2,r,b3,b4,b5,b6,b7⟩:=h.hl t c hm';exact List.mem_map.2 ⟨r,KV.mem_roots.2 (by omega),hk.tab_eq hn b4 b1 b2 b7⟩
  rw [List.length_map,List.length_map] at e;exact e
theorem Agr.fits_yes {K K':KV} {M:MV} (h:Agr K M) (hk:K.Ok) (hk':K'.Ok) (hu':K'.Uni) (hn:K.vars≤16) {t:TV} (ht:t.Ok) (htn:t.n=K.vars) (e:K.Ext K') {r:Nat} (hr:Names K' r t) (hd:∀ x,K'.hold x=K.hold x + if x=r∧2≤r then 1 else 0):M.fits [t]=true:=by
  have hR:=h.roots
  have hR':RootsT K' (M.tabs ++ [t]):=by
    refine ⟨fun x hx=>?_,fun u hm=>?_,fun u hm=>?_⟩
    · by_cases ex:x=r
      · subst ex; exact ⟨t,by simp,hr.2⟩
      · rw [hd,if_neg (fun k=>ex k.1)] at hx
        obtain ⟨u,hm,hd'⟩:=hR.rt x (by omega);exact ⟨u,by simp [hm],fun y=>by rw [e.den hk.wf y (hk.wf.ht x (by omega)).2]; exact hd' y⟩
    · rcases List.mem_append.1 hm with hm | hm
      · obtain ⟨x,a1,a2⟩:=hR.lr u hm
        exact ⟨x,e.tk a1,fun y=>by rw [e.den hk.wf y a1]; exact a2 y⟩
      · simp at hm; subst hm; exact ⟨r,hr.1,hr.2⟩
    · rw [e.vr]
      rcases List.mem_append.1 hm with hm | hm
      · exact hR.ok u hm
      · simp at hm; subst hm; exact ⟨ht,htn⟩
  have h1:=hR'.used hk' hu' (by rw [e.vr]; exact hn);have h2:=hk'.wf.ok.lp;have h3:=hk'.wf.ok.us;unfold MV.fits;rw [decide_eq_true_eq,h.same.od,← e.od,h.c,← e.pl];omega
theorem Agr.fits_no {K:KV} {M:MV} (h:Agr K M) (hk:K.Ok) (hn:K.vars≤16) {t:TV} (ht:t.Ok) (htn:t.n=K.vars) (hno:NoFitW K (K.SubN t.fn)):M.fits [t]=false:=by
  have:=h.roots.nofit hk hn ht htn hno;unfold MV.fits;rw [decide_eq_false_iff_not,h.same.od,h.c];omega
theorem Agr.new {n c:Nat} (h1:1≤n) (hn:n≤64) (h2:2≤c) (hc:c≤1048576):Agr (KV.new n c) (MV.new n c):=by
  have hp:=plain_new h1 hn h2 hc;refine ⟨⟨rfl,rfl⟩,rfl,by simp [MV.new],fun t d h=>by simp [MV.new] at h,fun r hr=>?_⟩
  have h0:(KV.new n c).hold r=0:=by simp [KV.new,KV.hold]
  omega
theorem flatT_nil (o:List Nat):flatT [] o=[]:=by
  refine List.eq_nil_iff_forall_not_mem.2 fun u hu=>?_
  have key:∀ (o:List Nat),(levT (unlikeT []) o).flatten=[]:=fun o=>by
    have e:unlikeT []=[]:=rfl;rw [e]
    induction o with
    | nil=>rfl
    | cons a o ih=>exact ih
  unfold flatT at hu
  rw [key] at hu; cases hu
theorem MV.U_nil {M:MV} (h:M.held=[]) (l:Nat):M.U l=0:=by
  have e:M.tabs=[]:=by unfold MV.tabs; rw [h]; rfl
  unfold MV.U MV.lev;rw [e];have h1:=flatT_nil M.order;have h2:=flatT_nil (turnL M.order l);unfold flatT at h1 h2
  rw [h1,h2]; rfl
theorem Agr.exch_bare {K:KV} {M:MV} (h:Agr K M) (hb:M.held=[]) (h2:2≤K.A.places) (l:Int):(M.exchE l=if l < 0∨(K.vars:Int) - 2 < l then 1 else 0)∧(M.exch l).held=[] ∧
    (¬ (l < 0∨(K.vars:Int) - 2 < l)→Agr (K.exchK l.toNat) (M.exch l))∧((l < 0∨(K.vars:Int) - 2 < l)→M.exch l=M)∧(M.exch l).trail.length≤M.trail.length + 1∧(K.trail=M.trail→¬ (l < 0∨(K.vars:Int) - 2 < l)→(K.exchK l.toNat).trail=(M.exch l).trail):=by
  have hE:M.exchE l=if l < 0∨(K.vars:Int) - 2 < l then 1 else 0:=by
    unfold MV.exchE;rw [h.same.n,MV.U_nil hb,h.c]
    by_cases hl:l < 0∨(K.vars:Int) - 2 < l
    · rw [if_pos hl,if_pos hl]
    · rw [if_neg hl,if_neg hl,if_neg (by omega)]
  by_cases hl:l < 0∨(K.vars:Int) - 2 < l
  · rw [if_pos hl] at hE
    have e:M.exch l=M:=by unfold MV.exch; rw [hE,if_neg (by decide)]
    rw [e,hE,if_pos hl];exact ⟨rfl,hb,fun hn=>absurd hl hn,fun _=>rfl,by omega,fun _ hn=>absurd hl hn⟩
  · rw [if_neg hl] at hE
    have e:M.exch l={ M with order:=turnL M.order l.toNat,trail:=M.trail ++ [l.toNat] }:=by unfold MV.exch; rw [hE,if_pos rfl]
    rw [e,hE,if_neg hl];refine ⟨rfl,hb,fun _=>⟨⟨?_,h.same.n⟩,h.c,h.nd,fun t c hm=>?_,fun r hr=>?_⟩,fun hh=>absurd hh hl,by simp,fun ht _=>by rw [show (K.exchK l.toNat).trail=K.trail ++ [l.toNat] from rfl,ht]⟩
    · show turnL M.order _=(K.order.set _ _).set _ _
      rw [h.same.od]; rfl
    · rw [show ({ M with order:=turnL M.order l.toNat,trail:=M.trail ++ [l.toNat] }:MV).held=M.held from rfl,hb] at hm; cases hm
    · obtain ⟨t,c,hm,_⟩:=h.lh r hr
      rw [hb] at hm; cases hm
end Go.Proofs.YtpfafhmkbcahhaaGreat
namespace Go.Proofs.YtpfafhmkbcahhaaGreat
theorem mixO_congr {o o':List Nat} (h:∀ v,v∈o↔v∈o') (a y:Nat→Bool):mixO o a y=mixO o' a y:=by
  funext v
  simp only [mixO,h]
theorem turnL_at {o:List Nat} {l:Nat} (hl:l + 1 < o.length) (i:Nat):(turnL o l)[i]?=if i=l + 1 then some (o.getD l 0) else if i=l then some (o.getD (l + 1) 0) else o[i]?:=by
  unfold turnL
  by_cases e1:i=l + 1
  · subst e1; rw [List.getElem?_set_self (by simpa using hl),if_pos rfl]
  · rw [List.getElem?_set_ne (Ne.symm e1),if_neg e1]
    by_cases e2:i=l
    · subst e2; rw [List.getElem?_set_self (by omega),if_pos rfl]
    · rw [List.getElem?_set_ne (Ne.symm e2),if_neg e2]
theorem turnL_take_lo {o:List Nat} {l i:Nat} (hi:i≤l):(turnL o l).take i=o.take i:=by
  unfold turnL;rw [List.take_set_of_le (by omega),List.take_set_of_le (by omega)]
theorem mem_take_at {o:List Nat} {i v:Nat}:v∈o.take i↔∃ j,j < i∧o[j]?=some v:=by
  constructor
  · intro h
    obtain ⟨j,hj⟩:=List.getElem?_of_mem h;rw [List.getElem?_take] at hj
    split at hj
    · rename_i h1; exact ⟨j,h1,hj⟩
    · cases hj
  · rintro ⟨j,h1,h2⟩
    exact List.mem_of_getElem? (i:=j) (by rw [List.getElem?_take,if_pos h1]; exact h2)
theorem getD_at {o:List Nat} {j:Nat} (h:j < o.length):o[j]?=some (o.getD j 0):=by
  rw [List.getD_eq_getElem?_getD,List.getElem?_eq_getElem h]; rfl
theorem turnL_take_hi {o:List Nat} {l i:Nat} (hl:l + 1 < o.length) (hi:l + 2≤i) (v:Nat):v∈(turnL o l).take i↔v∈o.take i:=by
  rw [mem_take_at,mem_take_at];have a0:=getD_at (o:=o) (j:=l) (by omega);have a1:=getD_at hl;constructor
  · rintro ⟨j,h1,h2⟩
    rw [turnL_at hl] at h2
    by_cases e1:j=l + 1
    · rw [if_pos e1] at h2; cases h2; exact ⟨l,by omega,a0⟩
    · by_cases e2:j=l
      · rw [if_neg e1,if_pos e2] at h2; cases h2; exact ⟨l + 1,by omega,a1⟩
      · rw [if_neg e1,if_neg e2] at h2; exact ⟨j,h1,h2⟩
  · rintro ⟨j,h1,h2⟩
    by_cases e1:j=l + 1
    · subst e1; rw [a1] at h2; cases h2
      exact ⟨l,by omega,by rw [turnL_at hl,if_neg (by omega),if_pos rfl]⟩
    · by_cases e2:j=l
      · subst e2; rw [a0] at h2; cases h2
        exact ⟨j + 1,by omega,by rw [turnL_at hl,if_pos rfl]⟩
      · exact ⟨j,h1,by rw [turnL_at hl,if_neg e1,if_neg e2]; exact h2⟩
theorem not_hangs {g:(Nat→Bool)→Bool} {v:Nat} (h:¬ Hangs g v) (z:Nat→Bool) (b:Bool):g (upd z v b)=g z:=by
  have e1:∀ b c,g (upd z v b)=g (upd z v c):=fun b c=>by
    have:g (upd z v true)=g (upd z v false):=Classical.byContradiction fun e=>h ⟨z,e⟩
    cases b <;> cases c <;> simp_all
  rw [e1 b (z v),upd_id]
def newT (K:KV) (x:Nat) (q:Nat × Nat):TV:=mkT K.vars fun w=>if w.testBit x then K.den q.2 fun v=>w.testBit v else K.den q.1 fun v=>w.testBit v
theorem newT_fn {K:KV} (hk:K.Ok) {x:Nat} (hx:x < K.vars) {q:Nat × Nat} (h1:K.A.tk q.1=true) (h2:K.A.tk q.2=true) (y:Nat→Bool):(newT K x q).fn y=if y x then K.den q.2 y else K.den q.1 y:=by
  unfold newT;rw [mkT_fn,idx_bit]
  have e:∀ {r:Nat},K.A.tk r=true→(K.den r fun v=>(idx K.vars y).testBit v)=K.den r y:=fun hr=>hk.den_low hr fun v hv=>by rw [idx_bit]; simp [hv]
  rw [e h1,e h2]; simp [hx]
theorem Nb.pair {K:KV} {l x y:Nat} (nb:Nb K l x y) {a d r:Nat} (ha:Deep K l a) (hd:Deep K l d) (hne:a≠d) (h2:2≤r) (ht:K.A.tk r=true) (he:∀ z,K.den r z=if z x then K.den d z else K.den a z):K.has3 x a d:=by
  obtain ⟨hx,hy,lx,ly,hxy⟩:=nb.facts;obtain ⟨p,v,hp,hpt,hv,hvl,t1,t2,hdep⟩:=nb.ok.wf.node_at h2 ht
  have hvn:p.var.toNat=v:=by omega
  obtain ⟨v',hv',hd',hh,hno⟩:=nb.ok.node_hangs nb.un h2 ht;have evv:v'=v:=nb.ok.ord.pm.inj hv' hvl (by omega);subst evv
  have ev:v'=x:=by
    refine Classical.byContradiction fun hne2=>?_
    have hxl:¬ K.lev x < K.lev v':=fun hlt=>by
      refine hno x hx hlt ?_
      refine Classical.byContradiction fun hnx=>hne (KV.canon nb.ok.wf nb.ok.ord nb.un _ _ _ ha.1 hd.1 (Nat.le_refl _) fun z=>?_)
      have e1:=not_hangs hnx z true;have e2:=not_hangs hnx z false;have e3:=e1.trans e2.symm;rw [he,he,upd_self,upd_self,(nb.deep_den hd z true).1,(nb.deep_den ha z false).1] at e3
      simpa using e3.symm
    have hlt:K.lev v' < K.lev x:=by
      have:K.lev v'≠K.lev x:=fun e=>hne2 (nb.ok.ord.pm.inj hvl hx e)
      omega
    obtain ⟨z,hz⟩:=hh;refine hz ?_;have a2:=ha.2;have d2:=hd.2;rw [he,he,upd_ne z true (Ne.symm hne2),upd_ne z false (Ne.symm hne2),KV.den_upd nb.ok.wf nb.ok.ord ha.1 hvl (by omega),KV.den_upd nb.ok.wf nb.ok.ord ha.1 hvl (by omega),KV.den_upd nb.ok.wf nb.ok.ord hd.1 hvl (by omega),KV.den_upd nb.ok.wf nb.ok.ord hd.1 hvl (by omega)]
  subst ev
  have g0:=fun z=>KV.den_lo nb.ok.wf nb.ok.ord h2 hp hpt z
  have g1:=fun z=>KV.den_hi nb.ok.wf nb.ok.ord h2 hp hpt z
  rw [hvn] at g0 g1;refine ⟨r,p,h2,hp,hpt,hv,KV.canon nb.ok.wf nb.ok.ord nb.un _ _ _ t1 ha.1 (Nat.le_refl _) fun z=>?_,KV.canon nb.ok.wf nb.ok.ord nb.un _ _ _ t2 hd.1 (Nat.le_refl _) fun z=>?_⟩
  · rw [← g0,he,upd_self,(nb.deep_den ha z false).1]; rfl
  · rw [← g1,he,upd_self,(nb.deep_den hd z true).1]; rfl
theorem newT_hangs {K:KV} {l x y:Nat} (nb:Nb K l x y) {q:Nat × Nat} (h1:Deep K l q.1) (h2:Deep K l q.2) (hne:q.1≠q.2):Hangs (newT K x q).fn x:=by
  obtain ⟨hx,_⟩:=nb.facts
  refine Classical.byContradiction fun hnx=>hne (KV.canon nb.ok.wf nb.ok.ord nb.un _ _ _ h1.1 h2.1 (Nat.le_refl _) fun z=>?_)
  have e1:=not_hangs hnx z true;have e2:=not_hangs hnx z false;have e3:=e1.trans e2.symm;rw [newT_fn nb.ok hx h1.1 h2.1,newT_fn nb.ok hx h1.1 h2.1,upd_self,upd_self,(nb.deep_den h2 z true).1,(nb.deep_den h1 z false).1] at e3
  simpa using e3.symm
theorem Agr.turned {K:KV} {M:MV} {l x y:Nat} {C:List CrV} {N:List (Nat × Nat)} (h:Agr K M) (nb:Nb K l x y) (hn:K.vars≤16) (CA:CrAll K l x y C) (F:FrN K x (C.flatMap CrV.qs) N) (u:TV) :
    (u∈flatT M.tabs (turnL K.order l)→(∃ r,2≤r∧K.A.tk r=true∧K.tab r=u)∨∃ q,q∈N∧newT K x q=u)∧(∀ q,q∈N→newT K x q∈flatT M.tabs (turnL K.order l)):=by
  obtain ⟨hx,hy,lx,ly,hxy⟩:=nb.facts;have hk:=nb.ok;have hu:=nb.un;have pm:=hk.ord.pm;have hl:=nb.hl;have ol:=pm.ol
  have hl1:l + 1 < K.order.length:=by omega
  have hL:∀ t,t∈M.tabs→t.Ok∧t.n=K.vars:=h.roots.ok
  have ho:∀ v,v∈K.order→v < K.vars:=fun v hv=>pm.mem_order hv
  have ho':∀ v,v∈turnL K.order l→v < K.vars:=fun v hv=>ho v (mem_turnL hl1 hv)
  have a0:K.order[l]?=some x:=by rw [← nb.hx]; exact getD_at (by omega)
  have a1:K.order[l + 1]?=some y:=by rw [← nb.hy]; exact getD_at hl1
  have old:∀ u,u∈flatT M.tabs K.order→∃ r,2≤r∧K.A.tk r=true∧K.tab r=u:=fun u hu'=>by
    have hu2:=hu';rw [← h.same.od] at hu2;exact (h.mem hk hu hn).1 hu2
  have tk1:∀ v,v∈K.order.take (l + 1)↔v∈K.order.take l∨v=x:=fun v=>by
    rw [List.take_add_one,a0]; simp
  have tk2:∀ v,v∈(turnL K.order l).take (l + 1)↔v∈K.order.take l∨v=y:=fun v=>by
    rw [List.take_add_one,turnL_take_lo (Nat.le_refl _),turnL_at hl1,if_neg (by omega),if_pos rfl,nb.hy]; simp
  have nx:x∉K.order.take l:=fun hm=>by have:=(pm.mem_take.1 hm).2; omega
  have ny:y∉K.order.take l:=fun hm=>by have:=(pm.mem_take.1 hm).2; omega
  have mx:∀ (a z:Nat→Bool) (b:Bool),mixO (K.order.take (l + 1)) (upd a x b) z=mixO (K.order.take l) a (upd z x b):=fun a z b=>by
    funext v
    simp only [mixO,tk1,upd]
    by_cases e:v=x
    · subst e; simp [nx]
    · simp [e]
  have my:∀ (a z:Nat→Bool),mixO ((turnL K.order l).take (l + 1)) a z=mixO (K.order.take l) a (upd z y (a y)):=fun a z=>by
    funext v
    simp only [mixO,tk2,upd]
    by_cases e:v=y
    · subst e; simp [ny]
    · simp [e]
  refine ⟨fun hm=>?_,fun q hq=>?_⟩
  · obtain ⟨i,v,hi,uok,un,⟨t,ht,a,he⟩,hh⟩:=(mem_flatT hL ho').1 hm
    rw [turnL_at hl1] at hi
    by_cases e1:i=l + 1
    · subst e1
      rw [if_pos rfl,nb.hx] at hi
      obtain rfl:x=v:=by simpa using hi
      obtain ⟨g,hg⟩ : ∃ g:(Nat→Bool)→Bool,∀ z,g z=t.fn (mixO (K.order.take l) a z):=⟨_,fun _=>rfl⟩
      have hug:∀ z,u.fn z=g (upd z y (a y)):=fun z=>by rw [he,my,hg]
      have hgx:Hangs g x:=by
        refine Classical.byContradiction fun hnx=>?_
        obtain ⟨z,hz⟩:=hh;refine hz ?_
        have ec:∀ b,upd (upd z x b) y (a y)=upd (upd z y (a y)) x b:=fun b=>by
          funext w; simp only [upd]
          by_cases e1:w=y
          · subst e1; simp [Ne.symm hxy]
          · simp [e1]
        rw [hug,hug,ec,ec,not_hangs hnx,not_hangs hnx]
      have hgl:∀ z,(mkT K.vars fun w=>g fun v=>w.testBit v).fn z=g z:=fun z=>by
        rw [mkT_fn,hg,hg]
        refine TV.fn_same t fun v hv=>?_
        simp only [mixO]
        split
        · rfl
        · rw [idx_bit]; rw [(hL t ht).2] at hv; simp [hv]
      obtain ⟨r,r2,rt,rtab⟩:=old (mkT K.vars fun w=>g fun v=>w.testBit v) ((mem_flatT hL ho).2 ⟨l,x,a0,mkT_ok _ hn,rfl,⟨t,ht,a,fun z=>by rw [hgl,hg]⟩,by
        obtain ⟨z,hz⟩:=hgx
        exact ⟨z,by rw [hgl,hgl]; exact hz⟩⟩)
      have hrg:∀ z,K.den r z=g z:=fun z=>by rw [← hk.tab_fn rt,rtab,hgl]
      have hur:∀ z,u.fn z=K.den r (upd z y (a y)):=fun z=>by rw [hug,hrg]
      obtain ⟨p,v,hp,hpt,hv,hvl,t1,t2,hdep⟩:=hk.wf.node_at r2 rt
      by_cases hcr:K.Cross x y r
      · obtain ⟨c,hc,rfl⟩:=List.mem_map.1 (CA.all r hcr)
        obtain ⟨p',_,_,_,_,_,F4⟩:=(CA.ok c hc).at_
        have hq:∃ q,q∈CrV.qs c∧∀ z,u.fn z=if z x then K.den q.2 z else K.den q.1 z:=by
          cases hb:a y with
          | false =>
            refine ⟨(c.a00,c.a10),by simp [CrV.qs],fun z=>?_⟩
            rw [hur,hb,F4.den,upd_self,upd_ne z false hxy,(nb.deep_den F4.d10 z false).2,(nb.deep_den F4.d00 z false).2]; rfl
          | true =>
            refine ⟨(c.a01,c.a11),by simp [CrV.qs],fun z=>?_⟩
            rw [hur,hb,F4.den,upd_self,upd_ne z true hxy,(nb.deep_den F4.d11 z true).2,(nb.deep_den F4.d01 z true).2]; rfl
        obtain ⟨q,hq,hqe⟩:=hq;have hqQ:q∈C.flatMap CrV.qs:=List.mem_flatMap.2 ⟨c,hc,hq⟩;obtain ⟨d1,d2⟩:=CA.deep hqQ
        have hune:q.1≠q.2:=fun e=>by
          obtain ⟨z,hz⟩:=hh;refine hz ?_
          rw [hqe,hqe,e,(nb.deep_den d2 z true).1,(nb.deep_den d2 z false).1]; simp
        by_cases h3:K.has3 x q.1 q.2
        · left
          obtain ⟨s,ps,s2,hps,hpst,hsv,e1,e2⟩:=h3;have st:K.A.tk s=true:=ArenaV.tk_iff.2 ⟨ps,hps,hpst⟩;refine ⟨s,s2,st,hk.tab_eq hn st uok un fun z=>?_⟩;rw [hqe,KV.den_node hk.wf hk.ord s2 hps hpst,show ps.var.toNat=x by omega,e1,e2]
        · right
          refine ⟨q,(F.iff q).2 ⟨hqQ,hune,h3⟩,TV.fn_ext (mkT_ok _ hn) uok un.symm fun z=>?_⟩;rw [newT_fn hk hx d1.1 d2.1,hqe]
      · -- no crossing: it does not hang on y
        left;refine ⟨r,r2,rt,hk.tab_eq hn rt uok un fun z=>?_⟩;rw [hur]
        have hvx:v=x:=by
          have h5:K.lev v≤l:=by
            rw [← hdep]
            refine Classical.byContradiction fun h6=>?_
            obtain ⟨z,hz⟩:=hgx;refine hz ?_;rw [← hrg,← hrg,KV.den_upd hk.wf hk.ord rt hx (by omega),KV.den_upd hk.wf hk.ord rt hx (by omega)]
          have h6:¬ K.lev v < l:=fun h6=>by
            obtain ⟨v',hv',hd',⟨z,hz⟩,_⟩:=hk.node_hangs hu r2 rt;have evv:v'=v:=pm.inj hv' hvl (by omega);subst evv;refine hz ?_;rw [hrg,hrg,hg,hg]
            congr 1
            funext w
            simp only [mixO,upd]
            by_cases ew:w=v'
            · subst ew; rw [if_pos (pm.mem_take.2 ⟨hvl,h6⟩),if_pos (pm.mem_take.2 ⟨hvl,h6⟩)]
            · simp [ew]
          exact pm.inj hvl hx (by omega)
        subst hvx
        have k1:K.vI p.lo≠(y:Int):=fun e=>hcr ⟨r2,p,hp,hpt,hv,.inl e⟩
        have k2:K.vI p.hi≠(y:Int):=fun e=>hcr ⟨r2,p,hp,hpt,hv,.inr e⟩
        have hb:=hk.ord.below hk.wf r2 hp hpt;have g1:=nb.kid t1 (by omega) k1;have g2:=nb.kid t2 (by omega) k2;rw [KV.den_node hk.wf hk.ord r2 hp hpt,KV.den_node hk.wf hk.ord r2 hp hpt,show p.var.toNat=v by omega,upd_ne z _ hxy,(nb.deep_den g1 z _).2,(nb.deep_den g2 z _).2]
    · rw [if_neg e1] at hi
      by_cases e2:i=l
      · subst e2
        rw [if_pos rfl,nb.hy] at hi
        obtain rfl:y=v:=by simpa using hi
        rw [turnL_take_lo (Nat.le_refl _)] at he;left;refine old u ?_
        by_cases hux:Hangs u.fn x
        · exact (mem_flatT hL ho).2 ⟨i,x,a0,uok,un,⟨t,ht,a,he⟩,hux⟩
        · refine (mem_flatT hL ho).2 ⟨i + 1,y,a1,uok,un,⟨t,ht,upd a x false,fun z=>?_⟩,hh⟩
          rw [mx,← he,not_hangs hux]
      · rw [if_neg e2] at hi
        left;refine old u ((mem_flatT hL ho).2 ⟨i,v,hi,uok,un,⟨t,ht,a,fun z=>?_⟩,hh⟩);rw [he]
        congr 1
        rcases Nat.lt_or_ge i l with h5 | h5
        · rw [turnL_take_lo (by omega)]
        · exact mixO_congr (turnL_take_hi hl1 (by omega)) a z
  · obtain ⟨hqQ,hune,_⟩:=(F.iff q).1 hq
    obtain ⟨d1,d2⟩:=CA.deep hqQ;obtain ⟨c,hc,hm⟩:=List.mem_flatMap.1 hqQ;obtain ⟨p,hp,hpt,hv,_,_,F4⟩:=(CA.ok c hc).at_;have c2:2≤c.r:=(CA.ok c hc).cr.1;have ct:K.A.tk c.r=true:=ArenaV.tk_iff.2 ⟨p,hp,hpt⟩
    have hmem:K.tab c.r∈flatT M.tabs K.order:=by
      have:=(h.mem hk hu hn).2 ⟨c.r,c2,ct,rfl⟩
      rw [← h.same.od]; exact this
    obtain ⟨i,v,hi,_,_,⟨t,ht,a,he⟩,hh⟩:=(mem_flatT hL ho).1 hmem
    have hden:∀ z,K.den c.r z=t.fn (mixO (K.order.take i) a z):=fun z=>by rw [← hk.tab_fn ct,he]
    have hio:=pm.at_order hi
    have hdl:K.dep c.r=l:=by rw [nb.dep_at hp hv]; exact lx
    have hil:i=l:=by
      have hx':Hangs (K.den c.r) x:=by
        obtain ⟨v',hv',hd',hh',_⟩:=hk.node_hangs hu c2 ct;have:v'=x:=pm.inj hv' hx (by omega)
        subst this; exact hh'
      have h5:i≤l:=by
        refine Classical.byContradiction fun h6=>?_
        obtain ⟨z,hz⟩:=hx';refine hz ?_;rw [hden,hden]
        congr 1
        funext w
        simp only [mixO,upd]
        by_cases ew:w=x
        · subst ew; rw [if_pos (pm.mem_take.2 ⟨hx,by omega⟩),if_pos (pm.mem_take.2 ⟨hx,by omega⟩)]
        · simp [ew]
      have h6:¬ i < l:=fun h6=>by
        obtain ⟨z,hz⟩:=hh;refine hz ?_;rw [hk.tab_fn ct,hk.tab_fn ct,KV.den_upd hk.wf hk.ord ct hio.1 (by omega),KV.den_upd hk.wf hk.ord ct hio.1 (by omega)]
      omega
    subst hil
    have hb:∃ b,∀ z,(newT K x q).fn z=K.den c.r (upd z y b):=by
      simp only [CrV.qs,List.mem_cons,List.not_mem_nil,or_false] at hm
      rcases hm with rfl | rfl
      · refine ⟨false,fun z=>?_⟩
        rw [newT_fn hk hx d1.1 d2.1,F4.den,upd_self,upd_ne z false hxy,(nb.deep_den F4.d10 z false).2,(nb.deep_den F4.d00 z false).2]; rfl
      · refine ⟨true,fun z=>?_⟩
        rw [newT_fn hk hx d1.1 d2.1,F4.den,upd_self,upd_ne z true hxy,(nb.deep_den F4.d11 z true).2,(nb.deep_den F4.d01 z true).2]; rfl
    obtain ⟨b,hb⟩:=hb;refine (mem_flatT hL ho').2 ⟨i + 1,x,by rw [turnL_at hl1,if_pos rfl,nb.hx],mkT_ok _ hn,rfl,⟨t,ht,upd a y b,fun z=>?_⟩,newT_hangs nb d1 d2 hune⟩;rw [hb,hden,my,upd_self]
    congr 1
    funext w
    simp only [mixO,upd]
    by_cases ew:w=y
    · subst ew; simp [ny]
    · simp [ew]
theorem Agr.U {K:KV} {M:MV} {l x y:Nat} {C:List CrV} {N:List (Nat × Nat)} (h:Agr K M) (nb:Nb K l x y) (hn:K.vars≤16) (CA:CrAll K l x y C) (F:FrN K x (C.flatMap CrV.qs) N):M.U l + 2=K.A.used + N.length:=by
  obtain ⟨hx,hy,lx,ly,hxy⟩:=nb.facts;have hk:=nb.ok;have hu:=nb.un
  have nt:∀ q,q∈N→Deep K l q.1∧Deep K l q.2∧q.1≠q.2∧¬ K.has3 x q.1 q.2:=fun q hq=>by
    obtain ⟨h1,h2,h3⟩:=(F.iff q).1 hq;exact ⟨(CA.deep h1).1,(CA.deep h1).2,h2,h3⟩
  have hmem:∀ u,u∈unlikeT (M.lev.flatten ++ (levT (unlikeT M.tabs) (turnL M.order l)).flatten)↔u∈K.nodes.map K.tab ++ N.map (newT K x):=fun u=>by
    rw [mem_unlikeT,List.mem_append,List.mem_append,List.mem_map,List.mem_map];have ht:=h.turned nb hn CA F u
    have e1:u∈(levT (unlikeT M.tabs) (turnL M.order l)).flatten↔u∈flatT M.tabs (turnL K.order l):=by rw [h.same.od]; rfl
    rw [e1];constructor
    · rintro (hm | hm)
      · obtain ⟨r,h1,h2,h3⟩:=(h.mem hk hu hn).1 hm
        exact .inl ⟨r,KV.mem_nodes.2 ⟨h1,h2⟩,h3⟩
      · rcases ht.1 hm with ⟨r,h1,h2,h3⟩ | h1
        · exact .inl ⟨r,KV.mem_nodes.2 ⟨h1,h2⟩,h3⟩
        · exact .inr h1
    · rintro (⟨r,h1,h2⟩ | ⟨q,h1,h2⟩)
      · obtain ⟨a,b⟩:=KV.mem_nodes.1 h1
        exact .inl ((h.mem hk hu hn).2 ⟨r,a,b,h2⟩)
      · right; rw [← h2]; exact (h.turned nb hn CA F u).2 q h1
  have hnd:(K.nodes.map K.tab ++ N.map (newT K x)).Nodup:=by
    rw [List.nodup_append];refine ⟨List.pairwise_map.2 (List.Pairwise.imp_of_mem (fun {a b} ha hb hne e=>hne (hk.tab_inj hu (KV.mem_nodes.1 ha).2 (KV.mem_nodes.1 hb).2 e)) K.nodes_nodup),List.pairwise_map.2 (List.Pairwise.imp_of_mem (fun {a b} ha hb hne e=>hne ?_) F.nd),fun s hs u hu' e=>?_⟩
    · subst e
      obtain ⟨r,hr,rfl⟩:=List.mem_map.1 hs;obtain ⟨q,hq,he⟩:=List.mem_map.1 hu';obtain ⟨d1,d2,hne,hno⟩:=nt q hq;obtain ⟨r2,rt⟩:=KV.mem_nodes.1 hr;exact hno (nb.pair d1 d2 hne r2 rt fun z=>by rw [← hk.tab_fn rt,← he,newT_fn hk hx d1.1 d2.1])
    · obtain ⟨a1,a2,_⟩:=nt a ha
      obtain ⟨b1,b2,_⟩:=nt b hb
      have hf:∀ z,(if z x then K.den a.2 z else K.den a.1 z)=if z x then K.den b.2 z else K.den b.1 z:=fun z=>by rw [← newT_fn hk hx a1.1 a2.1,← newT_fn hk hx b1.1 b2.1,e]
      refine Prod.ext (KV.canon hk.wf hk.ord hu _ _ _ a1.1 b1.1 (Nat.le_refl _) fun z=>?_) (KV.canon hk.wf hk.ord hu _ _ _ a2.1 b2.1 (Nat.le_refl _) fun z=>?_)
      · have:=hf (upd z x false)
        rw [upd_self,(nb.deep_den a1 z false).1,(nb.deep_den b1 z false).1] at this
        simpa using this
      · have:=hf (upd z x true)
        rw [upd_self,(nb.deep_den a2 z true).1,(nb.deep_den b2 z true).1] at this
        simpa using this
  have h1:=List.Nodup.length_le_of_subset (unlikeT_nodup _) fun u hm=>(hmem u).1 hm
  have h2:=List.Nodup.length_le_of_subset hnd fun u hm=>(hmem u).2 hm
  have h3:=hk.nodes_len;rw [List.length_append,List.length_map,List.length_map] at h1 h2
  show (unlikeT _).length + 2=_
  omega
end Go.Proofs.YtpfafhmkbcahhaaGreat
namespace Go.Proofs.YtpfafhmkbcahhaaGreat
theorem turnL_turnL {o:List Nat} {l:Nat} (hl:l + 1 < o.length):turnL (turnL o l) l=o:=by
  apply List.ext_getElem?
  intro i
  have hl':l + 1 < (turnL o l).length:=by rw [turnL_len]; exact hl
  have g0:(turnL o l).getD l 0=o.getD (l + 1) 0:=by rw [List.getD_eq_getElem?_getD,turnL_at hl,if_neg (by omega),if_pos rfl]; rfl
  have g1:(turnL o l).getD (l + 1) 0=o.getD l 0:=by rw [List.getD_eq_getElem?_getD,turnL_at hl,if_pos rfl]; rfl
  rw [turnL_at hl',g0,g1]
  by_cases e1:i=l + 1
  · subst e1; rw [if_pos rfl,getD_at hl]
  · by_cases e2:i=l
    · subst e2; rw [if_neg e1,if_pos rfl,getD_at (by omega)]
    · rw [if_neg e1,if_neg e2,turnL_at hl,if_neg e1,if_neg e2]
def MV.Uo (M:MV) (o:List Nat) (l:Nat):Nat:=(unlikeT ((levT (unlikeT M.tabs) o).flatten ++ (levT (unlikeT M.tabs) (turnL o l)).flatten)).length
theorem MV.Uo_turn (M:MV) {o:List Nat} {l:Nat} (hl:l + 1 < o.length):M.Uo (turnL o l) l=M.Uo o l:=by
  unfold MV.Uo;rw [turnL_turnL hl];refine Nat.le_antisymm (List.Nodup.length_le_of_subset (unlikeT_nodup _) fun u hu=>?_) (List.Nodup.length_le_of_subset (unlikeT_nodup _) fun u hu=>?_)
  · rw [mem_unlikeT,List.mem_append] at hu ⊢; exact hu.symm
  · rw [mem_unlikeT,List.mem_append] at hu ⊢; exact hu.symm
def MV.fitT (M:MV):List Nat→List Nat→Prop
  | [],_=>True
  | l :: r,o=>l + 2≤M.n∧2 + M.Uo o l≤M.c∧M.fitT r (turnL o l)
def MV.TrFit (M:MV):Prop:=M.fitT M.trail.reverse M.order
theorem MV.fitT_same {M M':MV} (h1:M'.n=M.n) (h2:M'.c=M.c) (h3:M'.held=M.held):∀ (r o:List Nat),M.fitT r o→M'.fitT r o
  | [],_,_=>trivial
  | l :: r,o,⟨a,b,c⟩=>by
    have ht:M'.tabs=M.tabs:=by unfold MV.tabs; rw [h3]
    exact ⟨by rw [h1]; exact a,by unfold MV.Uo; rw [h2,ht]; exact b,MV.fitT_same h1 h2 h3 r _ c⟩
def MV.undo (M:MV):MV:={ M with order:=turnL M.order (M.trail.getLastD 0),trail:=M.trail.dropLast }
theorem MV.exch_yes {M:MV} {l:Int} (h:M.exchE l=0):0≤l∧l.toNat + 2≤M.n∧2 + M.U l.toNat≤M.c∧M.exch l={ M with order:=turnL M.order l.toNat,trail:=M.trail ++ [l.toNat] }:=by
  refine ⟨?_,?_,?_,by unfold MV.exch; rw [if_pos h]⟩
  all_goals
    unfold MV.exchE at h
    split at h
    · cases h
    · rename_i h1
      split at h
      · cases h
      · omega
theorem MV.exch_no {M:MV} {l:Int} (h:M.exchE l≠0):M.exch l=M:=by unfold MV.exch; rw [if_neg h]
theorem MV.exch_n (M:MV) (l:Int):(M.exch l).n=M.n∧(M.exch l).c=M.c∧(M.exch l).held=M.held:=by
  unfold MV.exch; split <;> exact ⟨rfl,rfl,rfl⟩
theorem MV.TrFit.exch {M:MV} (h:M.TrFit) (ho:M.order.length=M.n) (l:Int):(M.exch l).TrFit:=by
  by_cases he:M.exchE l=0
  · obtain ⟨h0,h1,h2,e⟩:=MV.exch_yes he
    rw [e]
    show MV.fitT _ (M.trail ++ [l.toNat]).reverse (turnL M.order l.toNat)
    rw [List.reverse_append,List.reverse_singleton,List.singleton_append];refine ⟨h1,?_,?_⟩
    · show 2 + M.Uo (turnL M.order l.toNat) l.toNat≤M.c
      rw [M.Uo_turn (by omega)]; exact h2
    · rw [turnL_turnL (by omega)]
      exact MV.fitT_same (M:=M) (M':={ M with order:=turnL M.order l.toNat,trail:=M.trail ++ [l.toNat] }) rfl rfl rfl _ _ h
  · rw [MV.exch_no he]; exact h
theorem trail_split {t:List Nat} (h:t≠[]):t=t.dropLast ++ [t.getLastD 0]:=by
  rw [List.getLastD_eq_getLast?,List.getLast?_eq_some_getLast h];exact (List.dropLast_concat_getLast h).symm
theorem MV.TrFit.last {M:MV} (h:M.TrFit) (hne:M.trail≠[]):M.trail.getLastD 0 + 2≤M.n∧2 + M.U (M.trail.getLastD 0)≤M.c∧M.undo.TrFit:=by
  have hs:=trail_split hne;unfold MV.TrFit at h;generalize M.trail.getLastD 0=l at hs h ⊢;rw [hs,List.reverse_append,List.reverse_singleton,List.singleton_append] at h;obtain ⟨a,b,c⟩:=h;refine ⟨a,b,?_⟩
  show MV.fitT _ M.trail.dropLast.reverse (turnL M.order (M.trail.getLastD 0))
  have e:M.trail.getLastD 0=l:=by rw [hs]; simp
  rw [e];exact MV.fitT_same (M:=M) (M':=M.undo) rfl rfl rfl _ _ c
theorem MV.undo_exch {M:MV} {l:Int} (h:M.exchE l=0) (ho:M.order.length=M.n):(M.exch l).undo=M:=by
  obtain ⟨h0,h1,h2,e⟩:=MV.exch_yes h;rw [e];unfold MV.undo
  simp only [List.getLastD_concat,List.dropLast_concat]
  rw [turnL_turnL (by omega)]
end Go.Proofs.YtpfafhmkbcahhaaGreat
namespace Go.Proofs.YtpfafhmkbcahhaaGreat
def MV.live (M:MV):Nat:=M.lev.flatten.length
def lvlD (p:Nat) (down:Bool) (j:Nat):Nat:=if down then p + j else p - 1 - j
def posD (p:Nat) (down:Bool) (j:Nat):Nat:=if down then p + j else p - j
def distD (n p:Nat) (down:Bool):Nat:=if down then n - 1 - p else p
def MV.goS (M:MV) (p:Nat) (down:Bool):Nat→MV
  | 0=>M
  | j + 1=>(M.goS p down j).exch (lvlD p down j)
def bestB (L best:Nat):Nat:=if L < best then L else best
def bestJ (L best j bj:Nat):Nat:=if L < best then j else bj
def MV.runD (M:MV) (p:Nat) (down:Bool) (g:Nat):Nat→Nat→Nat→Nat→Nat × Nat × Nat
  | 0,j,best,bj=>(j,best,bj)
  | f + 1,j,best,bj =>
    if (M.goS p down j).exchE (lvlD p down j)≠0 then (j,best,bj)
    else if (bestB (M.goS p down (j + 1)).live best) * g < (M.goS p down (j + 1)).live * 100 then
      (j + 1,(bestB (M.goS p down (j + 1)).live best),bestJ (M.goS p down (j + 1)).live best (j + 1) bj)
    else M.runD p down g f (j + 1) (bestB (M.goS p down (j + 1)).live best) (bestJ (M.goS p down (j + 1)).live best (j + 1) bj)
def MV.okD (M:MV) (p:Nat) (down:Bool) (j:Nat):Prop:=∀ i,i < j→(M.goS p down i).exchE (lvlD p down i)=0
structure RunF (M:MV) (p:Nat) (down:Bool) (f j bj:Nat) (r:Nat × Nat × Nat):Prop where
  lo:j≤r.1
  hi:r.1≤j + f
  ok:M.okD p down j→M.okD p down r.1
  bj:bj≤j→r.2.2≤r.1
theorem MV.runD_f (M:MV) (p:Nat) (down:Bool) (g:Nat):∀ (f j best bj:Nat),RunF M p down f j bj (M.runD p down g f j best bj)
  | 0,j,best,bj=>⟨Nat.le_refl _,Nat.le_refl _,id,id⟩
  | f + 1,j,best,bj=>by
    unfold MV.runD;split
    · exact ⟨Nat.le_refl _,by show j≤_; omega,id,id⟩
    · rename_i he
      have he:(M.goS p down j).exchE (lvlD p down j)=0:=Classical.not_not.1 he
      have hok:M.okD p down j→M.okD p down (j + 1):=fun h i hi=>by
        by_cases e:i=j
        · subst e; exact he
        · exact h i (by omega)
      split
      · exact ⟨by show j≤j + 1; omega,by show j + 1≤_; omega,hok,fun h=>by show bestJ _ _ _ _≤j + 1; unfold bestJ; split <;> omega⟩
      · have ih:=MV.runD_f M p down g f (j + 1) (bestB (M.goS p down (j + 1)).live best) (bestJ (M.goS p down (j + 1)).live best (j + 1) bj)
        exact ⟨by have:=ih.lo; omega,by have:=ih.hi; omega,fun h=>ih.ok (hok h),fun h=>ih.bj (by unfold bestJ; split <;> omega)⟩
theorem MV.goS_n (M:MV) (p:Nat) (down:Bool):∀ j,(M.goS p down j).n=M.n∧(M.goS p down j).c=M.c∧(M.goS p down j).held=M.held
  | 0=>⟨rfl,rfl,rfl⟩
  | j + 1=>by
    have h:=MV.goS_n M p down j;have e:=(M.goS p down j).exch_n (lvlD p down j);exact ⟨e.1.trans h.1,e.2.1.trans h.2.1,e.2.2.trans h.2.2⟩
theorem MV.exch_len {M:MV} (h:M.order.length=M.n) (l:Int):(M.exch l).order.length=(M.exch l).n:=by
  unfold MV.exch;split
  · show (turnL _ _).length=M.n; rw [turnL_len]; exact h
  · exact h
theorem MV.goS_len {M:MV} (h:M.order.length=M.n) (p:Nat) (down:Bool):∀ j,(M.goS p down j).order.length=(M.goS p down j).n
  | 0=>h
  | j + 1=>MV.exch_len (MV.goS_len h p down j) _
theorem MV.goS_undo {M:MV} (h:M.order.length=M.n) {p:Nat} {down:Bool} {j:Nat} (hok:M.okD p down (j + 1)):(M.goS p down (j + 1)).undo=M.goS p down j :=
  MV.undo_exch (hok j (by omega)) (MV.goS_len h p down j)
theorem MV.goS_at {M:MV} {p v:Nat} (hv:M.order[p]?=some v) (ho:M.order.length=M.n) {down:Bool}:∀ j,M.okD p down j→j≤distD M.n p down→(M.goS p down j).order[posD p down j]?=some v
  | 0,_,_=>by simpa [MV.goS,posD] using hv
  | j + 1,hok,hj=>by
    have ih:=MV.goS_at hv ho j (fun i hi=>hok i (by omega)) (by omega);have hl:=MV.goS_len ho p down j;have hn:=(M.goS_n p down j).1;obtain ⟨h0,h1,_,e⟩:=MV.exch_yes (hok j (by omega))
    show ((M.goS p down j).exch (lvlD p down j)).order[posD p down (j + 1)]?=some v
    rw [e]
    show (turnL (M.goS p down j).order (lvlD p down j:Int).toNat)[posD p down (j + 1)]?=some v
    rw [Int.toNat_natCast] at h1 ⊢
    have hl1:lvlD p down j + 1 < (M.goS p down j).order.length:=by omega
    rw [turnL_at hl1]
    cases down with
    | true =>
      simp only [lvlD,posD,if_true] at ih hl1 ⊢
      rw [if_pos (by omega),← getD_at (by omega)]; exact ih
    | false =>
      simp only [lvlD,posD,distD,Bool.false_eq_true,if_false] at ih hl1 hj ⊢
      rw [if_neg (by omega),if_pos (by omega),← getD_at (by omega),show p - 1 - j + 1=p - j by omega]; exact ih
theorem posD_last {n p j:Nat} {down:Bool} (hp:p < n) (hj:j≤distD n p down):posD p down j < n∧(j=distD n p down↔posD p down j=if down then n - 1 else 0):=by
  cases down with
  | true=>simp only [posD,distD,if_true] at hj ⊢; omega
  | false=>simp only [posD,distD,Bool.false_eq_true,if_false] at hj ⊢; omega
theorem posD_inj {n p j k:Nat} {down:Bool} (hj:j≤distD n p down) (hk:k≤distD n p down):posD p down j=posD p down k↔j=k:=by
  cases down with
  | true=>simp only [posD,if_true]; omega
  | false=>simp only [posD,distD,Bool.false_eq_true,if_false] at hj hk ⊢; omega
structure OneV where
  M:MV
  sw:Nat
def MV.oneD (M:MV) (p g:Nat):OneV :=
  let down:=decide (M.n - 1 - p≤p)
  let r1:=M.runD p down g (distD M.n p down) 0 M.live 0
  let r2:=M.runD p (!down) g (distD M.n p (!down)) 0 r1.2.1 0
  if r2.2.2≠0 then ⟨M.goS p (!down) r2.2.2,2 * r1.1 + (2 * r2.1 - r2.2.2)⟩ else ⟨M.goS p down r1.2.2,2 * r1.1 + 2 * r2.1 + r1.2.2⟩
end Go.Proofs.YtpfafhmkbcahhaaGreat
