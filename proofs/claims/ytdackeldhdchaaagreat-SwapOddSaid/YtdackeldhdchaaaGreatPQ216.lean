import Derived.Test.YtdackeldhdchaaaGreatPQ214
import Derived.Test.YtdackeldhdchaaaGreatPQ215
import Derived.Test.YtdackeldhdchaaaGreatPQ29
import Derived.Test.YtdackeldhdchaaaGreatPQ25
set_option maxRecDepth 100000
set_option maxHeartbeats 6400000
namespace Go.Proofs.YtdackeldhdchaaaGreat
theorem aBd:∀ {H:List (TV × Nat)} {t:TV} {c:Nat},(H.map (·.1)).Nodup->(t,c)∈H->ah7 H t=c
 | [],_,_,_,h=>by cases h
 | a::H,t,c,hn,h=>by
  rw [List.map_cons,List.nodup_cons] at hn
  rcases List.mem_cons.1 h with rfl | h
  ·simp [ah7]
  ·have:a.1≠t:=fun e=>hn.1 (by rw [e];exact List.mem_map.2 ⟨_,h,rfl⟩)
   simp only [ah7,if_neg this]
   exact aBd hn.2 h
theorem apa:∀ {H:List (TV × Nat)} {t:TV},0<ah7 H t->(t,ah7 H t)∈H
 | [],_,h=>by simp [ah7] at h
 | a::H,t,h=>by
  by_cases e:a.1=t
  ·simp only [ah7,if_pos e];rw [<- e];simp
  ·simp only [ah7,if_neg e] at h ⊢
   exact List.mem_cons_of_mem _ (apa h)
theorem auk:∀ {H:List (TV × Nat)} {t u:TV} {c:Nat},(H.map (·.1)).Nodup->((u,c)∈an0 H t↔(u≠t/\(u,c)∈H)\/(u=t/\c=ah7 H t+1))
 | [],t,u,c,_=>by simp [an0,ah7]
 | a::H,t,u,c,hn=>by
  rw [List.map_cons,List.nodup_cons] at hn
  by_cases e:a.1=t
  ·simp only [an0,if_pos e,ah7,List.mem_cons]
   have hno:∀ d,(t,d)∉H:=fun d hd=>hn.1 (by rw [e];exact List.mem_map.2 ⟨_,hd,rfl⟩)
   constructor
   ·rintro (h | h)
    ·right
     have h1:=congrArg Prod.fst h;have h2:=congrArg Prod.snd h;exact ⟨h1.trans e,h2⟩
    ·refine .inl ⟨fun h1=>hno c (by rw [<- h1];exact h),.inr h⟩
   ·rintro (⟨h1,h | h⟩ | ⟨h1,h2⟩)
    ·exact absurd (by rw [<- e,<- h]) h1
    ·exact .inr h
    ·left;rw [h1,h2,<- e]
  ·simp only [an0,if_neg e,ah7,List.mem_cons,auk (t:=t) (u:=u) (c:=c) hn.2]
   constructor
   ·rintro (h | h | h)
    ·exact .inl ⟨fun h1=>e (by rw [<- h1,<- h]),.inl h⟩
    ·exact .inl ⟨h.1,.inr h.2⟩
    ·exact .inr h
   ·rintro (⟨h1,h | h⟩ | h)
    ·exact .inl h
    ·exact .inr (.inl ⟨h1,h⟩)
    ·exact .inr (.inr h)
theorem avG (H:List (TV × Nat)) (t:TV):(an0 H t).map (·.1)=if t∈H.map (·.1) then H.map (·.1) else H.map (·.1)++[t]:=by
 induction H with
 | nil=>simp [an0]
 | cons a H ih =>
  by_cases e:a.1=t
  ·simp [an0,e]
  ·simp only [an0,if_neg e,List.map_cons,ih,List.mem_cons]
   by_cases h:t∈H.map (·.1)
   ·rw [if_pos h,if_pos (.inr h)]
   ·rw [if_neg h,if_neg (by rintro (h1 | h1);exact e h1.symm;exact h h1)];rfl
theorem aFD {H:List (TV × Nat)} (h:(H.map (·.1)).Nodup) (t:TV):((an0 H t).map (·.1)).Nodup:=by
 rw [avG];split
 ·exact h
 ·rename_i hn
  rw [List.nodup_append];exact ⟨h,by simp,fun a ha b hb e=>by simp at hb;subst hb;subst e;exact hn ha⟩
theorem aDn (H:List (TV × Nat)) (t:TV):(an0 H t).length<=H.length+1:=by
 have h:=congrArg List.length (avG H t);rw [List.length_map] at h
 rw [h];split <;> simp
structure Agr (K:KV) (M:MV):Prop where
 same:aJl K M
 c:M.c=K.A.places
 nd:(M.held.map (·.1)).Nodup
 hl:∀ t c,(t,c)∈M.held->t.Ok/\t.n=K.vars/\∃ r,2<=r/\K.A.tk r=true/\K.hold r=c/\0<c/\∀ y,K.den r y=t.fn y
 lh:∀ r,0<K.hold r->∃ t c,(t,c)∈M.held/\K.hold r=c/\∀ y,K.den r y=t.fn y
theorem Agr.roots {K:KV} {M:MV} (h:Agr K M):anK K M.tabs:=by
 refine ⟨fun r hr=>?_,fun t ht=>?_,fun t ht=>?_⟩
 ·obtain ⟨t,c,hm,_,hd⟩:=h.lh r hr
  exact ⟨t,List.mem_map.2 ⟨_,hm,rfl⟩,hd⟩
 ·obtain ⟨⟨t',c⟩,hm,rfl⟩:=List.mem_map.1 ht
  obtain ⟨_,_,r,_,h2,_,_,h3⟩:=h.hl t' c hm;exact ⟨r,h2,h3⟩
 ·obtain ⟨⟨t',c⟩,hm,rfl⟩:=List.mem_map.1 ht
  obtain ⟨h1,h2,_⟩:=h.hl t' c hm;exact ⟨h1,h2⟩
theorem MV.lev_flat {K:KV} {M:MV} (h:aJl K M):M.lev.flatten=ag9 M.tabs K.order:=by rw [<- h.od];rfl
theorem Agr.used {K:KV} {M:MV} (h:Agr K M) (hk:K.Ok) (hu:K.Uni) (hn:K.vars<=16):K.A.used=M.lev.flatten.length+2:=by
 rw [MV.lev_flat h.same];exact h.roots.used hk hu hn
theorem Agr.mem {K:KV} {M:MV} (h:Agr K M) (hk:K.Ok) (hu:K.Uni) (hn:K.vars<=16) {u:TV}:u∈M.lev.flatten↔∃ r,2<=r/\K.A.tk r=true/\K.tab r=u:=by
 rw [MV.lev_flat h.same];exact h.roots.mem hk hu hn
def Names (K:KV) (r:Nat) (t:TV):Prop:=K.A.tk r=true/\∀ y,K.den r y=t.fn y
theorem Names.eq {K:KV} (hk:K.Ok) (hu:K.Uni) {r s:Nat} {t:TV} (h1:Names K r t) (h2:Names K s t):r=s :=
 KV.canon hk.wf hk.ord hu _ _ _ h1.1 h2.1 (Nat.le_refl _) fun y=>by rw [h1.2,h2.2]
theorem Names.teq {K:KV} {r:Nat} {t u:TV} (h1:Names K r t) (h2:Names K r u) (ht:t.Ok) (hu:u.Ok) (hn:t.n=u.n):t=u :=
 TV.fn_ext ht hu hn fun y=>by rw [<- h1.2,<- h2.2]
theorem Names.ext {K K':KV} {r:Nat} {t:TV} (h:Names K r t) (hk:K.Ok) (e:K.Ext K'):Names K' r t:=⟨e.tk h.1,fun y=>by rw [e.den hk.wf y h.1];exact h.2 y⟩
theorem Agr.holds {K:KV} {M:MV} (h:Agr K M) (hk:K.Ok) (hu:K.Uni) {r:Nat} {t:TV} (ht:t.Ok) (hn:t.n=K.vars) (hr:Names K r t):M.holds t=K.hold r:=by
 unfold MV.holds
 by_cases h0:0<K.hold r
 ·obtain ⟨u,c,hm,hc,hd⟩:=h.lh r h0
  obtain ⟨h1,h2,_⟩:=h.hl u c hm;have:u=t:=Names.teq ⟨hr.1,hd⟩ hr h1 ht (h2.trans hn.symm);subst this;rw [aBd h.nd hm,hc]
 ·by_cases h1:0<ah7 M.held t
  ·obtain ⟨_,_,s,h2,h3,h4,h5,h6⟩:=h.hl t _ (apa h1)
   have:s=r:=Names.eq hk hu ⟨h3,h6⟩ hr
   subst this;omega
  ·omega
theorem Agr.holds0 {K:KV} {M:MV} (h:Agr K M) {t:TV} (hno:∀ r,¬ Names K r t):M.holds t=0:=by
 unfold MV.holds
 by_cases h1:0<ah7 M.held t
 ·obtain ⟨_,_,s,h2,h3,h4,h5,h6⟩:=h.hl t _ (apa h1)
  exact absurd ⟨h3,h6⟩ (hno s)
 ·omega
theorem aDo {K:KV} (hk:K.Ok) (b:Bool) {n:Nat}:Names K (if b then 1 else 0) (amA n b) :=
 ⟨hk.tk_const (by cases b <;> simp),fun y=>by rw [aBe,K.den_const (by cases b <;> simp)];cases b <;> rfl⟩
theorem TV.isC_iff {t:TV}:t.isC=true↔∃ b,t=amA t.n b:=by
 unfold TV.isC;rw [Bool.or_eq_true,decide_eq_true_eq,decide_eq_true_eq];constructor
 ·rintro (h | h)
  ·exact ⟨false,h⟩
  ·exact ⟨true,h⟩
 ·rintro ⟨b,h⟩
  cases b
  ·exact .inl h
  ·exact .inr h
theorem aBf {K:KV} (hk:K.Ok) (hu:K.Uni) (hn:K.vars<=16) {r:Nat} {t:TV} (ht:t.Ok) (htn:t.n=K.vars) (h:Names K r t):t.isC=true↔r<2:=by
 constructor
 ·intro hc
  obtain ⟨b,hb⟩:=TV.isC_iff.1 hc;have h1:=aDo hk b (n:=t.n);rw [<- hb] at h1;have:=Names.eq hk hu h h1
  cases b <;> simp at this <;> omega
 ·intro h2
  refine TV.isC_iff.2 ⟨r == 1,TV.fn_ext ht (amv _ (by rw [htn];exact hn)) rfl fun y=>?_⟩;rw [<- h.2,K.den_const h2,aBe]
theorem Agr.same_kernel {K K':KV} {M:MV} (h:Agr K M) (hk:K.Ok) (e:K.Ext K') (hd:∀ x,K'.hold x=K.hold x):Agr K' M:=by
 refine ⟨h.same.ext e,h.c.trans e.pl.symm,h.nd,fun t c hm=>?_,fun r hr=>?_⟩
 ·obtain ⟨h1,h2,r,h3,h4,h5,h6,h7⟩:=h.hl t c hm
  exact ⟨h1,by rw [e.vr];exact h2,r,h3,e.tk h4,by rw [hd];exact h5,h6,fun y=>by rw [e.den hk.wf y h4];exact h7 y⟩
 ·rw [hd] at hr
  obtain ⟨t,c,h1,h2,h3⟩:=h.lh r hr;exact ⟨t,c,h1,by rw [hd];exact h2,fun y=>by rw [e.den hk.wf y (hk.wf.ht r hr).2];exact h3 y⟩
theorem Agr.step {K K':KV} {M:MV} (h:Agr K M) (hk:K.Ok) (hu:K.Uni) (hk':K'.Ok) (hu':K'.Uni) (hn:K.vars<=16) {t:TV} (ht:t.Ok) (htn:t.n=K.vars) (e:K.Ext K') {r:Nat} (hr:Names K' r t)
  (hd:∀ x,K'.hold x=K.hold x+if x=r/\2<=r then 1 else 0):M.hold1E t=0/\Agr K' (M.hold1 t):=by
 have hn':K'.vars<=16:=by rw [e.vr];exact hn
 cases hc:t.isC with
 | true =>
  have h2:=(aBf hk' hu' hn' ht (by rw [e.vr];exact htn) hr).1 hc;refine ⟨by unfold MV.hold1E;rw [if_pos hc],?_⟩;rw [MV.hold1,if_pos hc]
  exact h.same_kernel hk e fun x=>by rw [hd,if_neg (by omega)];rfl
 | false =>
  have h2:2<=r:=by
   by_cases h2:2<=r
   ·exact h2
   ·have:=(aBf hk' hu' hn' ht (by rw [e.vr];exact htn) hr).2 (by omega)
    rw [hc] at this;cases this
  have hq:M.holds t=K.hold r:=by
   by_cases hl:K.A.tk r=true
   ·exact h.holds hk hu ht htn ⟨hl,fun y=>by rw [<- e.den hk.wf y hl];exact hr.2 y⟩
   ·have h0:K.hold r=0:=by
     by_cases h0:K.hold r=0
     ·exact h0
     ·exact absurd (hk.wf.ht r (by omega)).2 hl
    rw [h0]
    refine h.holds0 fun s hs=>hl ?_
    have:=Names.eq hk' hu' (hs.ext hk e) hr
    subst this;exact hs.1
  have hm:=hk'.wf.hm r;rw [hd,if_pos ⟨rfl,h2⟩] at hm;refine ⟨by unfold MV.hold1E;rw [if_neg (by rw [hc];simp),if_neg (by omega)],?_⟩;rw [MV.hold1,if_neg (by rw [hc];simp),if_neg (by omega)];refine ⟨⟨h.same.od.trans e.od.symm,h.same.n.trans e.vr.symm⟩,h.c.trans e.pl.symm,aFD h.nd t,fun u c hm=>?_,fun x hx=>?_⟩
  ·rcases (auk h.nd).1 hm with ⟨h1,h3⟩ | ⟨rfl,h3⟩
   ·obtain ⟨a1,a2,s,a3,a4,a5,a6,a7⟩:=h.hl u c h3
    refine ⟨a1,by rw [e.vr];exact a2,s,a3,e.tk a4,?_,a6,fun y=>by rw [e.den hk.wf y a4];exact a7 y⟩
    rw [hd,if_neg,a5];rfl
    rintro ⟨rfl,_⟩;exact h1 (Names.teq (K:=K') ⟨e.tk a4,fun y=>by rw [e.den hk.wf y a4];exact a7 y⟩ hr a1 ht (a2.trans htn.symm))
   ·refine ⟨ht,by rw [e.vr];exact htn,r,h2,hr.1,?_,by omega,hr.2⟩
    rw [hd,if_pos ⟨rfl,h2⟩,h3]
    show _=M.holds u+1
    rw [hq]
  ·by_cases ex:x=r
   ·subst ex
    refine ⟨t,ah7 M.held t+1,(auk h.nd).2 (.inr ⟨rfl,rfl⟩),?_,hr.2⟩;rw [hd,if_pos ⟨rfl,h2⟩]
    show _=M.holds t+1
    rw [hq]
   ·rw [hd,if_neg (fun k=>ex k.1)] at hx
    obtain ⟨u,c,a1,a2,a3⟩:=h.lh x (by omega);have hxt:=(hk.wf.ht x (by omega)).2;refine ⟨u,c,(auk h.nd).2 (.inl ⟨?_,a1⟩),by rw [hd,if_neg (fun k=>ex k.1)];exact a2,fun y=>by rw [e.den hk.wf y hxt];exact a3 y⟩;rintro rfl;exact ex (Names.eq hk' hu' (Names.ext ⟨hxt,a3⟩ hk e) hr)
theorem Agr.roots_len {K:KV} {M:MV} (h:Agr K M) (hk:K.Ok) (hu:K.Uni) (hn:K.vars<=16):K.roots.length=M.held.length:=by
 have e:(K.roots.map K.tab).length=(M.held.map (·.1)).length:=by
  have nd:(K.roots.map K.tab).Nodup:=List.pairwise_map.2 (List.Pairwise.imp_of_mem (fun {a b} ha hb hne e=>hne (hk.tab_inj hu (hk.wf.ht a (KV.mem_roots.1 ha)).2 (hk.wf.ht b (KV.mem_roots.1 hb)).2 e)) K.roots_nodup);refine Nat.le_antisymm (List.Nodup.length_le_of_subset nd fun u hm=>?_) (List.Nodup.length_le_of_subset h.nd fun u hm=>?_)
  ·obtain ⟨r,hr,rfl⟩:=List.mem_map.1 hm
   have h0:=KV.mem_roots.1 hr;obtain ⟨t,c,a1,a2,a3⟩:=h.lh r h0;obtain ⟨b1,b2,_⟩:=h.hl t c a1;exact List.mem_map.2 ⟨_,a1,(hk.tab_eq hn (hk.wf.ht r h0).2 b1 b2 a3).symm⟩
  ·obtain ⟨⟨t,c⟩,hm',rfl⟩:=List.mem_map.1 hm
   obtain ⟨b1,b2,r,b3,b4,b5,b6,b7⟩:=h.hl t c hm';exact List.mem_map.2 ⟨r,KV.mem_roots.2 (by omega),hk.tab_eq hn b4 b1 b2 b7⟩
 rw [List.length_map,List.length_map] at e;exact e
theorem Agr.fits_yes {K K':KV} {M:MV} (h:Agr K M) (hk:K.Ok) (hk':K'.Ok) (hu':K'.Uni) (hn:K.vars<=16) {t:TV} (ht:t.Ok) (htn:t.n=K.vars) (e:K.Ext K') {r:Nat} (hr:Names K' r t) (hd:∀ x,K'.hold x=K.hold x+if x=r/\2<=r then 1 else 0):M.fits [t]=true:=by
 have hR:=h.roots
 have hR':anK K' (M.tabs++[t]):=by
  refine ⟨fun x hx=>?_,fun u hm=>?_,fun u hm=>?_⟩
  ·by_cases ex:x=r
   ·subst ex;exact ⟨t,by simp,hr.2⟩
   ·rw [hd,if_neg (fun k=>ex k.1)] at hx
    obtain ⟨u,hm,hd'⟩:=hR.rt x (by omega);exact ⟨u,by simp [hm],fun y=>by rw [e.den hk.wf y (hk.wf.ht x (by omega)).2];exact hd' y⟩
  ·rcases List.mem_append.1 hm with hm | hm
   ·obtain ⟨x,a1,a2⟩:=hR.lr u hm
    exact ⟨x,e.tk a1,fun y=>by rw [e.den hk.wf y a1];exact a2 y⟩
   ·simp at hm;subst hm;exact ⟨r,hr.1,hr.2⟩
  ·rw [e.vr]
   rcases List.mem_append.1 hm with hm | hm
   ·exact hR.ok u hm
   ·simp at hm;subst hm;exact ⟨ht,htn⟩
 have h1:=hR'.used hk' hu' (by rw [e.vr];exact hn);have h2:=hk'.wf.ok.lp;have h3:=hk'.wf.ok.us;unfold MV.fits;rw [decide_eq_true_eq,h.same.od,<- e.od,h.c,<- e.pl];omega
theorem Agr.fits_no {K:KV} {M:MV} (h:Agr K M) (hk:K.Ok) (hn:K.vars<=16) {t:TV} (ht:t.Ok) (htn:t.n=K.vars) (hno:aqX K (K.SubN t.fn)):M.fits [t]=false:=by
 have:=h.roots.nofit hk hn ht htn hno;unfold MV.fits;rw [decide_eq_false_iff_not,h.same.od,h.c];omega
theorem Agr.new {n c:Nat} (h1:1<=n) (hn:n<=64) (h2:2<=c) (hc:c<=1048576):Agr (KV.new n c) (MV.new n c):=by
 have hp:=aHr h1 hn h2 hc;refine ⟨⟨rfl,rfl⟩,rfl,by simp [MV.new],fun t d h=>by simp [MV.new] at h,fun r hr=>?_⟩
 have h0:(KV.new n c).hold r=0:=by simp [KV.new,KV.hold]
 omega
end Go.Proofs.YtdackeldhdchaaaGreat
namespace Go.Proofs.YtdackeldhdchaaaGreat
open Go.RowKit Go.Maps Go.ChangeMaps Go.WideShapes
theorem ayH (b:Nat) (K:KV) (F:List Nat) (w:World) (h:ad1 w b K F) :
  Calls Tryz.prog 57 #[.pointer (some ⟨b,0,none⟩)] w fun e w'=>e=.returned (.int .i64 K.trail.length)/\w'=w:=by
 obtain ⟨T,q,hk,rfl⟩:=h;obtain ⟨ta,tc,htv,_⟩:=abI hk.mem.ts;have c7:w.cell? ⟨b,7,none⟩=some q.tv:=aac hk.mem.blk rfl;rw [htv] at c7;clear hk htv
 go_enter Tryz.func57,Tryz.ntmps57
 go_wp2_with fail;go_ret;exact ⟨rfl,rfl⟩
theorem az5 (b:Nat) (K:KV) (F:List Nat) (w:World) (h:ad1 w b K F) :
  Calls Tryz.prog 48 #[.pointer (some ⟨b,0,none⟩)] w fun e w'=>∃ (g cap:Nat),e=.returned (.slice (some ⟨g,0,none⟩) K.order.length cap)/\w'.ownsRow w.heap.size 3 1 (.slice (some ⟨g,0,none⟩) K.order.length cap) K.order.length (acf K.order)/\Upd [] w w':=by
 obtain ⟨T,q,hk,rfl⟩:=h;have h1:=hk.ok.wf.vs;have h2:=hk.ok.ord.pm.ol;exact atF b K T q w hk.mem (by omega) (by omega)
theorem aCp (b:Nat) (K:KV) (F:List Nat) (w:World) (h:ad1 w b K F) :
  Calls Tryz.prog 31 #[.pointer (some ⟨b,0,none⟩)] w fun e w'=>e=.returned (.int .i64 ((K.A.used:Int)-2))/\w'=w:=by
 obtain ⟨T,q,hk,rfl⟩:=h;exact ayI b K T q w hk.mem
theorem aJt (b:Nat) (K:KV) (F:List Nat) (w:World) (h:ad1 w b K F) :
  Calls Tryz.prog 33 #[.pointer (some ⟨b,0,none⟩)] w fun e w'=>∃ v:Value,e=.returned v/\w'.ownsRow w.heap.size 77 1 v K.roots.length (ach K.roots)/\Upd [] w w':=by
 obtain ⟨T,q,hk,rfl⟩:=h;exact ayJ b K T q w hk
theorem aMG (b r:Nat) (K:KV) (F:List Nat) (w:World) (h:ad1 w b K F) (hr:r<=4294967295) :
  Calls Tryz.prog 74 #[.pointer (some ⟨b,0,none⟩),.int .u32 r] w fun e w'=>e=.returned (.int .i64 (K.hold r))/\w'=w:=by
 obtain ⟨T,q,hk,rfl⟩:=h;have h1:=hk.ok.wf.len;have h2:=hk.ok.wf.ul;have h3:=hk.ok.wf.ok.lp;have h4:=hk.ok.wf.ok.pm;exact arx b r K T q w hk.mem (by omega) (hk.ok.wf.hm r) hr
theorem aDp (b r:Nat) (K:KV) (F:List Nat) (p:abu) (w:World) (h:ad1 w b K F) (hp:K.A.list[r]?=some p) (hpt:p.taken=true) :
  Calls Tryz.prog 67 #[.pointer (some ⟨b,0,none⟩),.int .u32 r] w fun e w'=>e=.returned (.tuple #[.agg #[.int .i64 p.var,.int .u32 p.lo,.int .u32 p.hi],.int .i64 0])/\Upd [] w w':=by
 obtain ⟨T,q,hk,rfl⟩:=h;have:=hk.ok.ref_lt (aaU.tk_iff.2 ⟨p,hp,hpt⟩);exact amF b r K T q p w hk.mem (by omega) hp hpt
theorem KV.Ok.place {K:KV} (hk:K.Ok) {r:Nat} (h2:2<=r) (ht:K.A.tk r=true):∃ (p:abu) (v:Nat),K.A.list[r]?=some p/\p.taken=true/\p.var=(v:Int)/\v<K.vars/\K.A.tk p.lo=true/\K.A.tk p.hi=true/\K.dep r<K.dep p.lo/\K.dep r<K.dep p.hi/\(∀ x,K.den r x=if x v then K.den p.hi x else K.den p.lo x):=by
 obtain ⟨p,v,hp,hpt,hv,hvl,h3,h4,hd⟩:=hk.wf.node_at h2 ht;have hb:=hk.ord.below hk.wf h2 hp hpt;refine ⟨p,v,hp,hpt,hv,hvl,h3,h4,hb.1,hb.2,fun x=>?_⟩;rw [KV.den_node hk.wf hk.ord h2 hp hpt,show p.var.toNat=v by omega]
theorem aj8.keep0 {w wr w2:World} {g B m:Nat} {l:List Bool} (h:aj8 w g B m l wr) (u:Upd [] wr w2):aj8 w g B m l w2 :=
 ⟨aaX h.row fun k hk=>u.block k (h.row.lt k hk).2 (by simp),(u.block _ (aa4 h.rs) (by simp)).trans h.rs,h.up.trans u,h.bw⟩
structure aGy (t:TV) (w:World) (e:Ending) (w':World):Prop where
 ex:∃ c:Value,e=.returned (.tuple #[aeH t c,.bool true])/\aqI w w' c t/\Upd [] w w'
theorem asf (b f:Nat) (K:KV) (F:List Nat) (w:World) (h:ad1 w b K F) (hf:K.A.tk f=true) (h8:K.vars<=8) :
  Calls Tryz.prog 121 #[.pointer (some ⟨b,0,none⟩),.int .i64 K.vars,.int .u32 f] w fun e w'=>aGy (K.tab f) w e w':=by
 obtain ⟨i2,hi2,hz2,hs2,hb2⟩:=info_parts Tryz.infoBoolR;have HI:=Lib.hid (And.intro hi2 (And.intro hz2 (And.intro hs2 hb2)));have HK:=Lib.hid h;have HF:=Lib.hid hf;obtain ⟨n,hn⟩ : ∃ n,K.vars=n:=⟨_,rfl⟩;have HN:=Lib.hid hn;rw [hn] at h8 ⊢;have h16:(2:Nat) ^ n<=2 ^ 8:=Nat.pow_le_pow_right (by omega) h8
 have aRZ:(n:Int)<64:=by omega
 have hsh:wrap64 (2 ^ n)=((2 ^ n:Nat):Int):=by
  have h2:((2:Int) ^ n)=((2 ^ n:Nat):Int):=by push_cast;rfl
  rw [h2];generalize (2:Nat) ^ n=z at h16
  unfold wrap64;omega
 obtain ⟨m,hm⟩ : ∃ m,2 ^ n=m:=⟨_,rfl⟩;rw [hm] at h16 hsh;have HMN:=Lib.hid (And.intro hm (And.intro h8 hsh))
 obtain ⟨G,hG⟩ : ∃ G:Nat->Bool,G=fun x=>K.den f fun v=>x.testBit v:=⟨_,rfl⟩
 have HG:=Lib.hid hG
 have HTB:Hid (K.tab f=mkT n G):=by show _=_;rw [hG,<- hn];rfl
 rw [HTB.out];clear hi2 hz2 hs2 hb2 hm hn hsh h hf hG
 go_enter Tryz.func121,Tryz.ntmps121
 have HZ:=Lib.hid (heap_alloc_new w (.cells #[.int .i64 0,.slice none 0 0] 121 (0,0)))
 go_wp2_with (refine wpList_make_full _ rfl (.tmp 15) (.tmp 15) 75 rfl w.heap.size 4 i2 (.bool false) 1 Tryz.underlying75 HI.out.1 HI.out.2.1 HI.out.2.2.1 .i64 .i64 _ _ m rfl rfl HMN.out.2.2 HMN.out.2.2 (by rw [HI.out.2.2.2];omega) (by unfold maxLen;omega) (by rw [World.size_alloc];omega) ?_)
 intro w2 ho hgr
 have hsz:(w.alloc (.cells #[.int .i64 0,.slice none 0 0] 121 (0,0))).heap.size=w.heap.size+1:=by rw [World.size_alloc]
 obtain ⟨g,hg⟩ : ∃ g,w.heap.size+1=g:=⟨_,rfl⟩;rw [hg] at ho;rw [hg]
 have HM0:Hid (aj8 w g w.heap.size m (adH G m 0) w2):=by
  have hu:Upd [] w w2:=((Upd.refl [] w).alloc _).grown hgr (by simp)
  have er:(w2.heap[w.heap.size]?)=some (.cells #[.int .i64 0,.slice none 0 0] 121 (0,0)):=by
   rw [hgr.block w.heap.size (by rw [hsz];omega) (by simp)];exact HZ.out
  refine ⟨?_,er,hu,by omega,by omega⟩;rw [aq0]
  have e:(List.replicate m false).map Value.bool=(madeCells #[Value.bool false] m).toList:=by
   rw [List.map_replicate];exact (aJu m).symm
  rw [e];exact ho
 clear ho hgr hsz HZ hg;go_wp2_with fail
 go_loopg [19] m (fun gg s19 wr=>∃ x:Nat,m-x=gg/\x<=m/\s19=.int .i64 x/\aj8 w g w.heap.size m (adH G m x) wr)
 case atStart=>exact ⟨0,by omega,by omega,rfl,HM0.out⟩
 case round =>
  obtain ⟨x,rfl,hx,rfl,hM⟩:=hrel
  by_cases hlt:x<m
  ·have hil:(x:Int)<(m:Int):=by omega
   have HM:=Lib.hid hM;clear hM;go_wp2_with fail
   go_loopg [10,11] (n+1) (fun gg s10 s11 wy=>∃ (i r':Nat),n+1-i=gg/\i<=n+1/\s11=.int .i64 i/\s10=.int .u32 r'/\K.A.tk r'=true/\i<=K.dep r'/\(K.den r' (fun v=>x.testBit v)=G x)/\aj8 w g w.heap.size m (adH G m x) wy)
   case atStart=>exact ⟨0,f,by omega,by omega,rfl,rfl,HF.out,by omega,by rw [HG.out],HM.out⟩
   case round =>
    obtain ⟨i,r',rfl,hi,rfl,rfl,ht,hd,he,hM⟩:=hrel;have hdl:=HK.out.ok.wf.dep_le HK.out.ok.ord ht
    have hin:i<=n:=by have h1:K.vars=n:=HN.out;omega
    by_cases h2:r'<2
    ·have e0:(adH G m x)[x]?=some ((adH G m x).getD x false):=by rw [List.getD_eq_getElem?_getD,List.getElem?_eq_getElem (by rw [ahc];exact hlt)];rfl
     have cx:=abf hM.row (j:=x) (u:=.bool ((adH G m x).getD x false)) (by rw [List.getElem?_map,e0];rfl);have fx:=aci hM.row x;have aoV:=hM.set hlt (G x);rw [atG _ hlt] at aoV;have HE:=Lib.hid aoV
     have HB:Hid (((r':Int) == 1)=G x):=by
      show _=_
      rw [<- he,K.den_const h2,Bool.eq_iff_iff]
      simp only [beq_iff_eq];omega
     have h01:r'=0\/r'=1:=by omega
     clear hM aoV e0 he ht hd hdl
     rcases h01 with rfl | rfl
     ·have hb0:(((0:Nat):Int) == 1)=false:=by decide
      have HB0:Hid (G x=false):=by show _=_;rw [<- HB.out];rfl
      clear hb0;go_wp2_with fail
      go_roundg (m-(x+1))
      case measure=>omega
      case rel=>exact ⟨x+1,rfl,by omega,by simp,by rw [HB0.out] at HE;exact HE.out⟩
     ·have HB0:Hid (G x=true):=by show _=_;rw [<- HB.out];rfl
      go_wp2_with fail
      go_roundg (m-(x+1))
      case measure=>omega
      case rel=>exact ⟨x+1,rfl,by omega,by simp,by rw [HB0.out] at HE;exact HE.out⟩
    ·obtain ⟨p,v,hp,hpt,hv,hvl,h3,h4,h5,h6,h7⟩:=HK.out.ok.place (r:=r') (by omega) ht
     have hvn:v<n:=by have h1:K.vars=n:=HN.out;omega
     have hr0:((r':Int) != 0)=true:=by simp;omega
     have hr1:((r':Int) != 1)=true:=by simp;omega
     have HNd:=Lib.hid (aDp b r' K F p wr (HK.out.upd hM.up (by simp)) hp hpt);rw [hv] at HNd
     have HE:Hid (G x=if x.testBit v then K.den p.hi (fun v=>x.testBit v) else K.den p.lo (fun v=>x.testBit v)):=by
      show _=_
      rw [<- he,h7]
     have HP:=Lib.hid (And.intro h3 (And.intro h4 (And.intro (show i+1<=K.dep p.lo by omega) (show i+1<=K.dep p.hi by omega))));have HMI:=Lib.hid hM
     have hv0:¬ ((v:Int)<0):=by omega
     have a1G:¬ ((n:Int)<=(v:Int)):=by omega
     have a1H:¬ (n<=v):=by omega
     have a1I:¬ ((n:Int)<(i:Int)):=by omega
     have a1J:¬ (n<i):=by omega
     have aPi:(v:Int)<64:=by omega
     have HBT:Hid ((((x:Int)/2 ^ v).tmod 2 == 1)=x.testBit v):=by
      show _=_
      have:=ayK (x:=(x:Int)) (by unfold U64;omega) v;rw [this,aiL]
     have hxw:wrap64 (x:Int)=(x:Int):=IntWalk.wrap64_in _ (by omega);clear hM he ht hd hdl hp hpt hv h3 h4 h5 h6 h7;generalize p.lo=lo at *;generalize p.hi=hi at *;go_wp2_with fail;refine HNd.out.mono ?_;rintro e w3 ⟨rfl,hu⟩;have HM3:=Lib.hid ((HMI.out.keep0 hu).keep0 ((Upd.refl [] w3).alloc (.cells #[.int .i64 (v:Int),.int .u32 lo,.int .u32 hi] 142 (0,0))));have hbx:=heap_alloc_new w3 (.cells #[.int .i64 (v:Int),.int .u32 lo,.int .u32 hi] 142 (0,0));have x0:=aac (j:=0) hbx rfl;have x1:=aac (j:=1) hbx rfl;have x2:=aac (j:=2) hbx rfl;clear hu HNd hbx
     cases hbt:(((x:Int)/2 ^ v).tmod 2 == 1) with
     | true =>
      have HGG:Hid (K.den hi (fun v=>x.testBit v)=G x):=by
       show _=_
       rw [HE.out,<- HBT.out,hbt];rfl
      go_wp2_with fail
      go_roundg (n+1-(i+1))
      case measure=>omega
      case rel=>exact ⟨i+1,hi,rfl,by omega,by simp,rfl,HP.out.2.1,HP.out.2.2.2,HGG.out,HM3.out⟩
     | false =>
      have HGG:Hid (K.den lo (fun v=>x.testBit v)=G x):=by
       show _=_
       rw [HE.out,<- HBT.out,hbt];rfl
      go_wp2_with fail
      go_roundg (n+1-(i+1))
      case measure=>omega
      case rel=>exact ⟨i+1,lo,rfl,by omega,by simp,rfl,HP.out.1,HP.out.2.2.1,HGG.out,HM3.out⟩
  ·obtain rfl:x=m:=by omega
   have hil:¬ ((x:Int)<(x:Int)):=by omega
   have HM:=Lib.hid hM
   have abP:wr.ownsRow w.heap.size 4 1 (.slice (some ⟨g,0,none⟩) x x) (adH G x x).length ((adH G x x).map Value.bool):=by rw [ahc];exact hM.row
   have HRW:=Lib.hid abP;clear hM abP;go_wp2_with fail;refine (atH n (adH G x x) _ w.heap.size wr HRW.out (by have:=HMN.out.2.1;omega) (by rw [ahc,HMN.out.1];omega)).mono ?_;rintro e w3 hE;obtain ⟨c,rfl,hT,hu⟩:=hE.ex;rw [avH n x HMN.out.1] at hT;have hsz:=HM.out.up.size;have hrs:=(hu.block w.heap.size (aa4 HM.out.rs) (by simp)).trans HM.out.rs;have z0:w3.cell? ⟨w.heap.size,0,none⟩=some (.int .i64 0):=aac (j:=0) hrs rfl;have z1:w3.cell? ⟨w.heap.size,1,none⟩=some (.slice none 0 0):=aac (j:=1) hrs rfl;have f0:=abq 0 hrs;have f1:=abq 1 hrs;obtain ⟨ca,cn,hc,_⟩:=ahV hT.row;have HE:=Lib.hid (And.intro hT (And.intro (HM.out.up.trans hu) hrs));have HC:=Lib.hid hc;clear hE hT hu hrs hc HRW
   simp only [aeH,aGA]
   rw [HC.out];go_wp2_with fail;obtain ⟨b0,b1⟩:=aG5 HE.out.2.2 (.int .i64 n) (.slice ca (mkT n G).ws.length cn);refine bodyPost_ret (v:=.tuple #[.agg #[.int .i64 n,.slice ca (mkT n G).ws.length cn],.bool true]) (by simp [results,Tryz.results121,go_sem,b0,b1]) rfl ?_;have hu:=(HE.out.2.1.setCell (p:=⟨w.heap.size,0,none⟩) (.inr (Nat.le_refl _)) (.int .i64 n)).setCell (p:=⟨w.heap.size,1,none⟩) (.inr (Nat.le_refl _)) (.slice ca (mkT n G).ws.length cn)
   have hne:some w.heap.size≠c.ownBlock:=fun e=>by
    have h1:=(HE.out.1.row.lt w.heap.size e.symm).1;have h2:=aa4 HM.out.rs;omega
   have r1:=ac9 HE.out.1.row (a:=⟨w.heap.size,0,none⟩) hne (.int .i64 n);have r2:=ac9 r1 (a:=⟨w.heap.size,1,none⟩) hne (.slice ca (mkT n G).ws.length cn);refine ⟨c,by rw [HC.out];rfl,⟨HE.out.1.ok,aet r2 hsz⟩,hu⟩
theorem aum {l:List Nat} {i r:Nat} (h:l[i]?=some r):(ach l)[i]?=some (.int .u32 r):=by rw [ach,List.getElem?_map,h];rfl
theorem Tryz.infoRefS:(Tryz.prog.info? 77).map (fun i=>(i.zero,i.size,i.bytes))=some (some (.int .u32 0),1,4):=by kernel_rfl
structure axi (w:World) (b m:Nat) (rv tv:Value) (K:KV) (F:List Nat) (M:MV) (p:acd) (refs:List Nat) (tabs:List TV):Prop where
 ker:ad1 w b K F
 mod:aef w m M p (F++p.all m)
 dj:∀ k,k∈F->k∉p.all m
 rr:w.ownsRow 0 77 1 rv refs.length (ach refs)
 rf:∀ k,rv.ownBlock=some k->k∉F/\k∉p.all m
 tt:TLs w 0 (F++p.all m) tv tabs
theorem axi.z {w:World} {b m:Nat} {rv tv:Value} {K:KV} {F:List Nat} {M:MV} {p:acd} {refs:List Nat} {tabs:List TV} (h:axi w b m rv tv K F M p refs tabs):∀ k,k∈F++p.all m->k<w.heap.size:=fun k hk=>by
 rcases List.mem_append.1 hk with hk | hk
 ·exact h.ker.lt k hk
 ·rcases acd.mem.1 hk with rfl | h1 | h1 | h1
  ·exact aa4 h.mod.blk
  ·exact (h.mod.os.lt k h1).2
  ·obtain ⟨xs,hr⟩:=h.mod.hs.row;exact (hr.lt k h1).2
  ·exact (h.mod.ts.lt k h1).2
theorem axi.keep0 {w w':World} {b m:Nat} {rv tv:Value} {K:KV} {F:List Nat} {M:MV} {p:acd} {refs:List Nat} {tabs:List TV} (h:axi w b m rv tv K F M p refs tabs) (u:Upd [] w w'):axi w' b m rv tv K F M p refs tabs :=
 ⟨h.ker.upd u (by simp),h.mod.keep0 u,h.dj,aaX h.rr fun k hk=>u.block k (h.rr.lt k hk).2 (by simp),h.rf,h.tt.keep0 u⟩
theorem axi.kernel {w w1:World} {b m:Nat} {rv tv:Value} {K K1:KV} {F F1:List Nat} {M:MV} {p:acd} {refs:List Nat} {tabs:List TV} (h:axi w b m rv tv K F M p refs tabs) (hk:ad1 w1 b K1 F1) (u:Upd F w w1) (s:Sub F w F1):axi w1 b m rv tv K1 F1 M p refs tabs:=by
 have hz:=h.z
 have hs:Sub (F++p.all m) w (F1++p.all m):=fun k hk=>by
  rcases List.mem_append.1 hk with hk | hk
  ·exact (s k hk).imp (fun h=>List.mem_append.2 (.inl h)) id
  ·exact .inl (List.mem_append.2 (.inr hk))
 have hS:∀ k,k∈F->k∈F1++p.all m\/w.heap.size<=k\/k∈F++p.all m:=fun k hk=>.inr (.inr (List.mem_append.2 (.inl hk)))
 refine ⟨hk,?_,fun k hk hm=>?_,aaX h.rr fun k hk=>u.block k (h.rr.lt k hk).2 (h.rf k hk).1,fun k hk=>⟨fun hm=>?_,(h.rf k hk).2⟩,?_⟩
 ·have h1:=h.mod.keep u (fun k hk=>.inl (List.mem_append.2 (.inl hk))) (fun k hk hm=>h.dj k hm hk)
  refine ⟨h1.blk,h1.os,?_,h1.ts,h1.ne,fun k hk=>List.mem_append.2 (.inr hk)⟩;have h2:=h.mod.hs.apart hs
  refine (h.mod.hs.apart (Z':=F++(F1++p.all m)) fun k hk=>?_).keep u (fun k hk=>.inl (List.mem_append.2 (.inl hk))) (fun k hk hm=>h.dj k hm (acd.mem.2 (.inr (.inr (.inl hk))))) |>.apart fun k hk=>.inl (List.mem_append.2 (.inr hk))
  rcases List.mem_append.1 hk with hk | hk
  ·exact .inl (List.mem_append.2 (.inl hk))
  ·exact hs k hk
 ·rcases s k hk with h1 | h1
  ·exact h.dj k h1 hm
  ·have:=hz k (List.mem_append.2 (.inr hm));omega
 ·rcases s k hm with h1 | h1
  ·exact (h.rf k hk).1 h1
  ·have:=(h.rr.lt k hk).2;omega
 ·refine ((h.tt.apart (Z':=F++(F1++p.all m)) fun k hk=>?_).keep u fun k hk=>.inl (List.mem_append.2 (.inl hk))).apart fun k hk=>.inl (List.mem_append.2 (.inr hk))
  rcases List.mem_append.1 hk with hk | hk
  ·exact .inl (List.mem_append.2 (.inl hk))
  ·exact hs k hk
theorem axi.model {w w1:World} {b m:Nat} {rv tv:Value} {K:KV} {F:List Nat} {M M':MV} {p:acd} {refs:List Nat} {tabs:List TV} (h:axi w b m rv tv K F M p refs tabs) (e:agq m p (F++p.all m) M' w w1):∃ p',axi w1 b m rv tv K F M' p' refs tabs/\Upd (p.all m) w w1/\Sub (p.all m) w (p'.all m):=by
 obtain ⟨p',hm,u,s⟩:=e.ex;have hz:=h.z;refine ⟨p',⟨h.ker.upd u h.dj,⟨hm.blk,hm.os,hm.hs.apart fun k hk=>.inl ?_,hm.ts,hm.ne,fun k hk=>List.mem_append.2 (.inr hk)⟩,fun k hk hm=>?_,aaX h.rr fun k hk=>u.block k (h.rr.lt k hk).2 (h.rf k hk).2,fun k hk=>⟨(h.rf k hk).1,fun hm=>?_⟩,?_⟩,u,s⟩
 ·rcases List.mem_append.1 hk with hk | hk
  ·exact List.mem_append.2 (.inl (List.mem_append.2 (.inl hk)))
  ·exact List.mem_append.2 (.inr hk)
 ·rcases s k hm with h1 | h1
  ·exact h.dj k hk h1
  ·have:=hz k (List.mem_append.2 (.inl hk));omega
 ·rcases s k hm with h1 | h1
  ·exact (h.rf k hk).2 h1
  ·have:=(h.rr.lt k hk).2;omega
 ·refine ((h.tt.apart (Z':=(F++p.all m)++p'.all m) fun k hk=>?_).keep u fun k hk=>.inl (List.mem_append.2 (.inl (List.mem_append.2 (.inr hk))))).apart fun k hk=>.inl ?_
  ·rcases List.mem_append.1 hk with hk | hk
   ·exact .inl hk
   ·exact (s k hk).imp (fun h=>List.mem_append.2 (.inr h)) id
  ·rcases List.mem_append.1 hk with hk | hk
   ·exact List.mem_append.2 (.inl (List.mem_append.2 (.inl hk)))
   ·exact List.mem_append.2 (.inr hk)
structure Fro (n0:Nat) (w w':World):Prop where
 os:w'.os=w.os
 tape:w'.tape=w.tape
 output:w'.output=w.output
 size:w.heap.size<=w'.heap.size
 block:∀ k,k<n0->k<w.heap.size->w'.heap[k]?=w.heap[k]?
theorem Fro.refl (n0:Nat) (w:World):Fro n0 w w:=⟨rfl,rfl,rfl,Nat.le_refl _,fun _ _ _=>rfl⟩
theorem Fro.trans {n0:Nat} {w w1 w2:World} (h:Fro n0 w w1) (k:Fro n0 w1 w2):Fro n0 w w2 :=
 ⟨k.os.trans h.os,k.tape.trans h.tape,k.output.trans h.output,Nat.le_trans h.size k.size,fun x hx hl=>(k.block x hx (Nat.lt_of_lt_of_le hl h.size)).trans (h.block x hx hl)⟩
theorem Fro.of {n0:Nat} {S:List Nat} {w w1:World} (u:Upd S w w1) (h:∀ k,k∈S->n0<=k):Fro n0 w w1 :=
 ⟨u.os,u.tape,u.output,u.size,fun x hx hl=>u.block x hl fun hm=>by have:=h x hm;omega⟩
theorem Fro.of0 {n0:Nat} {w w1:World} (u:Upd [] w w1):Fro n0 w w1:=Fro.of u (by simp)
theorem Fro.upd {n0:Nat} {w0 w w1:World} (u:Upd [] w0 w) (h:w0.heap.size<=n0) (f:Fro n0 w w1):Upd [] w0 w1 :=
 ⟨f.os.trans u.os,f.tape.trans u.tape,f.output.trans u.output,Nat.le_trans u.size f.size,fun x hx _=>(f.block x (by omega) (Nat.lt_of_lt_of_le hx u.size)).trans (u.block x hx (by simp))⟩
theorem MV.Fit.hold1 {M:MV} (h:M.Fit) (hl:M.held.length+1<=65536) {t:TV} (ht:t.Ok) (hn:t.n=M.n):(M.hold1 t).Fit:=by
 unfold MV.hold1;split
 ·exact h
 ·split
  ·exact h
  ·refine ⟨?_,h.n6,h.ol,h.on,fun u hu=>?_,h.cb⟩
   ·have:=aDn M.held t
    show (an0 M.held t).length<=_
    omega
   ·have hk:=avG M.held t
    have hu':u∈(an0 M.held t).map (·.1):=hu;rw [hk] at hu'
    split at hu'
    ·exact h.tn u hu'
    ·rcases List.mem_append.1 hu' with h1 | h1
     ·exact h.tn u h1
     ·simp at h1;subst h1;exact ⟨ht,hn⟩
theorem MV.hold1_len (M:MV) (t:TV):(M.hold1 t).held.length<=M.held.length+1:=by
 unfold MV.hold1;split
 ·omega
 ·split
  ·omega
  ·exact aDn _ _
theorem asA {w:World} {b1 b2:Nat} {e1 e2:TypeId} {z1 z2 n1 n2:Nat} {v1 v2:Value} {xs ys:List Value} (h1:w.ownsRow b1 e1 z1 v1 n1 xs) (h2:w.ownsRow b2 e2 z2 v2 n2 ys) (hne:e1≠e2) {k:Nat} (k1:v1.ownBlock=some k) (k2:v2.ownBlock=some k):False:=by
 obtain ⟨c1,f1,a1⟩:=acE h1 k1;obtain ⟨c2,f2,a2⟩:=acE h2 k2;rw [a1] at a2
 injection a2 with a2;injection a2 with _ a2 _;exact hne a2
theorem aq1 {w:World} {b1:Nat} {e1 e2:TypeId} {z1 n1 k:Nat} {v1:Value} {xs:List Value} {cs:Array Value} {fr:Nat × Nat} (h1:w.ownsRow b1 e1 z1 v1 n1 xs) (h2:w.heap[k]?=some (.cells cs e2 fr)) (hne:e1≠e2):v1.ownBlock≠some k:=fun k1=>by
 obtain ⟨c1,f1,a1⟩:=acE h1 k1;rw [a1] at h2
 injection h2 with a2;injection a2 with _ a2 _;exact hne a2
theorem ayL {w5 y w6:World} {o:Option Nat} {b:Nat} {e:TypeId} {sz n:Nat} {v:Value} {xs:List Value} (u:Upd [] w5 y) (g:y.grownBy w6 o) (h:w5.ownsRow b e sz v n xs) (hne:∀ k,v.ownBlock=some k->o=some k->False):w6.ownsRow b e sz v n xs :=
 aaX h fun k hk=>(g.block k (Nat.lt_of_lt_of_le (h.lt k hk).2 u.size) (fun e=>hne k hk e.symm)).trans (u.block k (h.lt k hk).2 (by simp))
theorem avJ {w y:World} {S:List Nat} {o:Option Nat} {g:Nat} (u:Upd S w y) (h:o=some g\/g=y.heap.size):o=some g\/w.heap.size<=g:=h.imp id fun e=>by rw [e];exact u.size
theorem TLs.one {W:World} {n0 g:Nat} {Z:List Nat} {d0:Value} {t0:TV} (h:W.heap[g]?=some (.cells #[.int .i64 t0.n,d0] 121 (0,0))) (h0:TIn W Z d0 t0) (hg:n0<=g) (hZ:g∉Z) :
  TLs W n0 Z (.slice (some ⟨g,0,none⟩) 1 1) [t0]:=by
 refine ⟨⟨[d0],rfl,⟨rfl,.inr ⟨g,1,_,rfl,hg,h,Nat.le_refl _,by unfold maxLen;omega,rfl,rfl⟩⟩,fun i t c ht hc=>?_⟩,fun k hk=>?_⟩
 ·match i,ht,hc with
  | 0,ht,hc=>simp at ht hc;subst ht hc;exact h0
  | i+1,ht,_=>simp at ht
 ·simp [Value.ownBlock] at hk;subst hk;exact hZ
end Go.Proofs.YtdackeldhdchaaaGreat
namespace Go.Proofs.YtdackeldhdchaaaGreat
def KV.vI (K:KV) (r:Nat):Int:=match K.A.list[r]? with | some p=>p.var | none=>-1
def KV.part (K:KV) (y r:Nat):Nat × Nat:=match K.A.list[r]? with | some p=>if p.var=(y:Int) then (p.lo,p.hi) else (r,r) | none=>(r,r)
theorem KV.vI_at {K:KV} {r:Nat} {p:abu} (h:K.A.list[r]?=some p):K.vI r=p.var:=by simp [KV.vI,h]
structure Nb (K:KV) (l x y:Nat):Prop where
 ok:K.Ok
 un:K.Uni
 hl:l+2<=K.vars
 hx:K.order.getD l 0=x
 hy:K.order.getD (l+1) 0=y
theorem Nb.facts {K:KV} {l x y:Nat} (h:Nb K l x y):x<K.vars/\y<K.vars/\K.lev x=l/\K.lev y=l+1/\x≠y:=by
 have hl:=h.hl;have h1:=h.ok.ord.pm.oo l (by omega);have h2:=h.ok.ord.pm.oo (l+1) (by omega);rw [h.hx] at h1;rw [h.hy] at h2;exact ⟨h1.1,h2.1,h1.2,h2.2,by rintro rfl;omega⟩
def Deep (K:KV) (l a:Nat):Prop:=K.A.tk a=true/\l+1<K.dep a
def KV.Cross (K:KV) (x y r:Nat):Prop:=2<=r/\∃ p,K.A.list[r]?=some p/\p.taken=true/\p.var=(x:Int)/\(K.vI p.lo=(y:Int)\/K.vI p.hi=(y:Int))
theorem Nb.dep_at {K:KV} {l x y r v:Nat} {p:abu} (_h:Nb K l x y) (hp:K.A.list[r]?=some p) (hv:p.var=(v:Int)):K.dep r=K.lev v:=by
 simp [KV.dep,hp,hv]
theorem Nb.deep_v {K:KV} {l x y a:Nat} (h:Nb K l x y) (ha:Deep K l a):K.vI a≠(x:Int)/\K.vI a≠(y:Int):=by
 obtain ⟨hx,hy,h1,h2,_⟩:=h.facts;obtain ⟨p,hp,hpt⟩:=aaU.tk_iff.1 ha.1;have hd:=ha.2;rw [KV.vI_at hp];refine ⟨fun e=>?_,fun e=>?_⟩
 ·rw [h.dep_at hp e] at hd;omega
 ·rw [h.dep_at hp e] at hd;omega
theorem Nb.kid {K:KV} {l x y c:Nat} (h:Nb K l x y) (ht:K.A.tk c=true) (hd:l<K.dep c) (hv:K.vI c≠(y:Int)):Deep K l c:=by
 obtain ⟨hx,hy,h1,h2,_⟩:=h.facts;refine ⟨ht,?_⟩
 by_cases hc:2<=c
 ·obtain ⟨p,v,hp,hpt,hpv,hvl,_,_,avw⟩:=h.ok.wf.node_at hc ht
  rcases Nat.lt_or_ge (l+1) (K.dep c) with h5 | h5
  ·exact h5
  ·exfalso
   have e:v=y:=h.ok.ord.pm.inj hvl hy (by omega);exact hv (by rw [KV.vI_at hp,hpv,e])
 ·rw [h.ok.wf.dep_const (by omega)]
  have:=h.hl;omega
theorem KV.part_no {K:KV} {y r:Nat} (h:K.vI r≠(y:Int)):K.part y r=(r,r):=by
 unfold KV.part
 cases hp:K.A.list[r]? with
 | none=>rfl
 | some p =>
  rw [KV.vI_at hp] at h
  simp [h]
theorem KV.part_yes {K:KV} {y r:Nat} {p:abu} (hp:K.A.list[r]?=some p) (h:p.var=(y:Int)):K.part y r=(p.lo,p.hi):=by
 simp [KV.part,hp,h]
theorem Nb.part {K:KV} {l x y c:Nat} (h:Nb K l x y) (ht:K.A.tk c=true) (hd:l<K.dep c):Deep K l (K.part y c).1/\Deep K l (K.part y c).2/\∀ z,K.den c z=if z y then K.den (K.part y c).2 z else K.den (K.part y c).1 z:=by
 obtain ⟨hx,hy,h1,h2,_⟩:=h.facts
 by_cases hv:K.vI c=(y:Int)
 ·obtain ⟨p,hp,hpt⟩:=aaU.tk_iff.1 ht
  rw [KV.vI_at hp] at hv;rw [KV.part_yes hp hv]
  have h2c:2<=c:=by
   rcases Nat.lt_or_ge c 2 with h5 | h5
   ·have:=h.ok.wf.dep_const h5
    have e:=h.dep_at hp hv;have:=(h.ok.ord.pm.lo y hy).1;omega
   ·exact h5
  have hb:=h.ok.ord.below h.ok.wf h2c hp hpt;have hc:=h.ok.wf.cl c p h2c hp hpt;have e:=h.dep_at hp hv;refine ⟨⟨hc.1,by show l+1<K.dep p.lo;omega⟩,⟨hc.2,by show l+1<K.dep p.hi;omega⟩,fun z=>?_⟩;rw [KV.den_node h.ok.wf h.ok.ord h2c hp hpt,show p.var.toNat=y by omega]
 ·have hk:=h.kid ht hd hv
  rw [KV.part_no hv];exact ⟨hk,hk,fun z=>by simp⟩
theorem Nb.deep_den {K:KV} {l x y a:Nat} (h:Nb K l x y) (ha:Deep K l a) (z:Nat->Bool) (b:Bool):K.den a (upd z x b)=K.den a z/\K.den a (upd z y b)=K.den a z:=by
 obtain ⟨hx,hy,h1,h2,_⟩:=h.facts;have hd:=ha.2;exact ⟨KV.den_upd h.ok.wf h.ok.ord ha.1 hx (by omega) z b,KV.den_upd h.ok.wf h.ok.ord ha.1 hy (by omega) z b⟩
theorem KV.Ok.hangs {K:KV} (hk:K.Ok) (hu:K.Uni) {r v:Nat} {p:abu} (h2:2<=r) (hp:K.A.list[r]?=some p) (hpt:p.taken=true) (hv:p.var=(v:Int)) (hno:∀ z b,K.den r (upd z v b)=K.den r z):False:=by
 refine hk.ord.ne r p h2 hp hpt (KV.canon hk.wf hk.ord hu _ _ _ (hk.wf.cl r p h2 hp hpt).1 (hk.wf.cl r p h2 hp hpt).2 (Nat.le_refl _) fun z=>?_);have h0:=KV.den_lo hk.wf hk.ord h2 hp hpt z;have h1:=KV.den_hi hk.wf hk.ord h2 hp hpt z;rw [show p.var.toNat=v by omega] at h0 h1;rw [<- h0,<- h1,hno,hno]
def Low (K0:KV) (l x:Nat) (K:KV) (r:Nat):Prop:=K.A.tk r=true/\(Deep K0 l r\/(2<=r/\∃ p,K.A.list[r]?=some p/\p.taken=true/\p.var=(x:Int)/\Deep K0 l p.lo/\Deep K0 l p.hi/\p.lo≠p.hi))
structure Mid (K0:KV) (l x y:Nat) (R:List Nat) (K:KV) (D:Nat->(Nat->Bool)->Bool):Prop where
 vr:K.vars=K0.vars
 od:K.order=K0.order
 lv:K.level=K0.level
 hd:∀ r,K.hold r=K0.hold r
 tr:K.trail=K0.trail
 pl:K.A.places=K0.A.places
 rc:∀ r,r∈R->K0.Cross x y r
 rn:R.Nodup
 old:∀ (r:Nat) (p:abu),K0.A.list[r]?=some p->p.taken=true->(¬ K0.Cross x y r\/r∈R)->K.A.list[r]?=some p
 cr:∀ r,K0.Cross x y r->r∉R->∃ p,K.A.list[r]?=some p/\p.taken=true/\p.var=(y:Int)/\Low K0 l x K p.lo/\Low K0 l x K p.hi/\p.lo≠p.hi
 nw:∀ (r:Nat) (p:abu),K.A.list[r]?=some p->p.taken=true->K0.A.tk r=false->2<=r/\p.var=(x:Int)/\Deep K0 l p.lo/\Deep K0 l p.hi/\p.lo≠p.hi
 sem:∀ (r:Nat) (p:abu),2<=r->K.A.list[r]?=some p->p.taken=true->∀ z,D r z=if z p.var.toNat then D p.hi z else D p.lo z
 dold:∀ r,K0.A.tk r=true->∀ z,D r z=K0.den r z
theorem Nb.cross_tk {K:KV} {x y r:Nat} (h:K.Cross x y r):K.A.tk r=true:=by
 obtain ⟨_,p,hp,hpt,_⟩:=h;exact aaU.tk_iff.2 ⟨p,hp,hpt⟩
theorem Mid.start {K:KV} {l x y:Nat} {R:List Nat} (h:Nb K l x y) (hR:∀ r,r∈R↔K.Cross x y r) (hn:R.Nodup):Mid K l x y R K K.den:=by
 refine ⟨rfl,rfl,rfl,fun _=>rfl,rfl,rfl,fun r hr=>(hR r).1 hr,hn,fun r p hp _ _=>hp,fun r hc hr=>absurd ((hR r).2 hc) hr,fun r p hp hpt ht=>?_,fun r p h2 hp hpt z=>KV.den_node h.ok.wf h.ok.ord h2 hp hpt z,fun _ _ _=>rfl⟩
 rw [aaU.tk_iff.2 ⟨p,hp,hpt⟩] at ht;cases ht
theorem Mid.tk {K0 K:KV} {l x y:Nat} {R:List Nat} {D:Nat->(Nat->Bool)->Bool} (h:Mid K0 l x y R K D) {r:Nat} (ht:K0.A.tk r=true):K.A.tk r=true:=by
 obtain ⟨p,hp,hpt⟩:=aaU.tk_iff.1 ht
 by_cases hc:K0.Cross x y r/\r∉R
 ·obtain ⟨q,hq,hqt,_⟩:=h.cr r hc.1 hc.2
  exact aaU.tk_iff.2 ⟨q,hq,hqt⟩
 ·refine aaU.tk_iff.2 ⟨p,h.old r p hp hpt ?_,hpt⟩
  by_cases h1:K0.Cross x y r
  ·exact .inr (Classical.not_not.1 fun h2=>hc ⟨h1,h2⟩)
  ·exact .inl h1
theorem Mid.deep_at {K0 K:KV} {l x y:Nat} {R:List Nat} {D:Nat->(Nat->Bool)->Bool} (h:Mid K0 l x y R K D) (nb:Nb K0 l x y) {a:Nat} {p:abu} (ha:Deep K0 l a) (hp:K0.A.list[a]?=some p) (hpt:p.taken=true):K.A.list[a]?=some p:=by
 refine h.old a p hp hpt (.inl fun hc=>?_);obtain ⟨_,q,hq,_,hv,_⟩:=hc;have:=(nb.deep_v ha).1;rw [KV.vI_at hq] at this;exact this hv
theorem Low.mono {K0 K K':KV} {l x r:Nat} (h:Low K0 l x K r) (hs:∀ p,K.A.list[r]?=some p->p.taken=true->K'.A.list[r]?=some p):Low K0 l x K' r:=by
 obtain ⟨p,hp,hpt⟩:=aaU.tk_iff.1 h.1;refine ⟨aaU.tk_iff.2 ⟨p,hs p hp hpt,hpt⟩,h.2.imp id fun ⟨h2,q,hq,hqt,hr⟩=>⟨h2,q,hs q hq hqt,hqt,hr⟩⟩
def aDr (K:KV) (X:List Nat) (x a b r:Nat) (K':KV):Prop :=
 (a=b/\r=a/\K'=K)\/(a≠b/\(2<=r/\∃ p,K.A.list[r]?=some p/\p.taken=true/\p.var=(x:Int)/\p.lo=a/\p.hi=b)/\K'=K)\/(a≠b/\K.Took (x:Int) a b r K'/\∀ (s:Nat) (p:abu),s∉X->2<=s->K.A.list[s]?=some p->p.taken=true->¬ (p.var=(x:Int)/\p.lo=a/\p.hi=b))
theorem Mid.get {K0 K K':KV} {l x y a b r:Nat} {R P X:List Nat} {D:Nat->(Nat->Bool)->Bool} (h:Mid K0 l x y R K D) (_nb:Nb K0 l x y) (hw:K.Wf P) (ha:Deep K0 l a) (hb:Deep K0 l b) (G:aDr K X x a b r K') :
  ∃ D',Mid K0 l x y R K' D'/\Low K0 l x K' r/\(∀ z,D' r z=if z x then K0.den b z else K0.den a z)/\(∀ s,K.A.tk s=true->∀ z,D' s z=D s z)/\∀ (s:Nat) (p:abu),K.A.list[s]?=some p->p.taken=true->K'.A.list[s]?=some p:=by
 have hda:=fun z=>h.dold a ha.1 z
 have hdb:=fun z=>h.dold b hb.1 z
 rcases G with ⟨rfl,rfl,rfl⟩ | ⟨hne,⟨h2,p,hp,hpt,hv,rfl,rfl⟩,rfl⟩ | ⟨hne,T,_⟩
 ·exact ⟨D,h,⟨h.tk ha.1,.inl ha⟩,fun z=>by rw [hda];simp,fun _ _ _=>rfl,fun _ _ hp _=>hp⟩
 ·refine ⟨D,h,⟨aaU.tk_iff.2 ⟨p,hp,hpt⟩,.inr ⟨h2,p,hp,hpt,hv,ha,hb,hne⟩⟩,fun z=>?_,fun _ _ _=>rfl,fun _ _ hp _=>hp⟩
  rw [h.sem r p h2 hp hpt z,hda,hdb,show p.var.toNat=x by omega]
 ·have hno:=T.fr.no
  have ta:=h.tk ha.1;have tb:=h.tk hb.1
  have nr:∀ s,K.A.tk s=true->s≠r:=fun s hs e=>by rw [e,hno] at hs;cases hs
  have keep:∀ (s:Nat) (p:abu),K.A.list[s]?=some p->p.taken=true->K'.A.list[s]?=some p:=fun s p hp hpt=>by
   rw [T.fr.ot s (nr s (aaU.tk_iff.2 ⟨p,hp,hpt⟩))];exact hp
  have h0r:K0.A.tk r=false:=by
   cases e:K0.A.tk r with
   | false=>rfl
   | true=>rw [h.tk e] at hno;cases hno
  refine ⟨fun s=>if s=r then fun z=>if z x then K0.den b z else K0.den a z else D s,⟨by rw [T.vr,h.vr],by rw [T.od,h.od],by rw [T.lv,h.lv],fun s=>?_,by rw [T.tr,h.tr],by rw [T.fr.pl,h.pl],h.rc,h.rn,fun s p hp hpt hc=>keep s p (h.old s p hp hpt hc) hpt,fun s hc hs=>?_,fun s p hp hpt ht=>?_,fun s p h2 hp hpt z=>?_,fun s hs z=>?_⟩,⟨aaU.tk_iff.2 ⟨_,T.fr.at_,rfl⟩,.inr ⟨T.fr.two,_,T.fr.at_,rfl,rfl,ha,hb,hne⟩⟩,fun z=>by simp,fun s hs z=>?_,keep⟩
  ·rw [T.hd,<- h.hd]
   split
   ·rename_i e
    subst e
    rcases Nat.eq_zero_or_pos (K.hold s) with h0 | h0
    ·exact h0.symm
    ·rw [(hw.ht s h0).2] at hno;cases hno
   ·rfl
  ·obtain ⟨p,hp,hpt,hv,hlo,hhi,hn⟩:=h.cr s hc hs
   exact ⟨p,keep s p hp hpt,hpt,hv,hlo.mono (keep _),hhi.mono (keep _),hn⟩
  ·by_cases e:s=r
   ·subst e
    rw [T.fr.at_] at hp;cases hp
    exact ⟨T.fr.two,rfl,ha,hb,hne⟩
   ·rw [T.fr.ot s e] at hp
    exact h.nw s p hp hpt ht
  ·by_cases e:s=r
   ·subst e
    rw [T.fr.at_] at hp;cases hp
    simp only [if_true,Int.toNat_natCast]
    rw [if_neg (nr a ta),if_neg (nr b tb),hda,hdb]
   ·rw [T.fr.ot s e] at hp
    have hc:=hw.cl s p h2 hp hpt
    simp only [if_neg e]
    rw [if_neg (nr _ hc.1),if_neg (nr _ hc.2)];exact h.sem s p h2 hp hpt z
  ·have e:s≠r:=fun e=>by rw [e,h0r] at hs;cases hs
   simp only [if_neg e]
   exact h.dold s hs z
  ·simp only [if_neg (nr s hs)]
theorem amG {A:aaU} {c:Nat} {q:abu} {v:Int} {lo hi:Nat} (hq:A.list[c]?=some q) (s:Nat):(A.setNode c v lo hi).list[s]?=if s=c then some { q with var:=v,lo:=lo,hi:=hi } else A.list[s]?:=by
 have hlt:=(List.getElem?_eq_some_iff.1 hq).1
 simp only [aaU.setNode,hq]
 by_cases e:s=c
 ·subst e;rw [List.getElem?_set_self hlt,if_pos rfl]
 ·rw [List.getElem?_set_ne (Ne.symm e),if_neg e]
def KV.turnN (K:KV) (c y lo hi:Nat):KV:={ K with A:=K.A.setNode c (y:Int) lo hi }
theorem Low.ne_cross {K0 K:KV} {l x y:Nat} {R:List Nat} {D:Nat->(Nat->Bool)->Bool} (h:Mid K0 l x y R K D) (nb:Nb K0 l x y) {c r:Nat} (hc:K0.Cross x y c) (hr:Low K0 l x K r) (hin:c∈R\/K.vI c=(y:Int)):r≠c:=by
 rintro rfl;obtain ⟨_,_,_,_,hxy⟩:=nb.facts;obtain ⟨h2,p,hp,hpt,hv,aPn⟩:=hc
 rcases hr.2 with hd | ⟨_,q,hq,hqt,hqv,hlo,hhi,_⟩
 ·have:=(nb.deep_v hd).1
  rw [KV.vI_at hp] at this;exact this hv
 ·rcases hin with hin | hin
  ·have:=h.old r p hp hpt (.inr hin)
   rw [hq] at this;cases this
   rcases aPn with e | e
   ·exact (nb.deep_v hlo).2 e
   ·exact (nb.deep_v hhi).2 e
  ·rw [KV.vI_at hq,hqv] at hin
   exact hxy (by omega)
theorem Mid.low_den {K0 K:KV} {l x y:Nat} {R:List Nat} {D:Nat->(Nat->Bool)->Bool} (h:Mid K0 l x y R K D) (nb:Nb K0 l x y) {r:Nat} (hr:Low K0 l x K r) (z:Nat->Bool) (b:Bool):D r (upd z y b)=D r z:=by
 obtain ⟨_,_,_,_,hxy⟩:=nb.facts
 rcases hr.2 with hd | ⟨h2,q,hq,hqt,hqv,hlo,hhi,_⟩
 ·rw [h.dold r hd.1,h.dold r hd.1];exact (nb.deep_den hd z b).2
 ·rw [h.sem r q h2 hq hqt,h.sem r q h2 hq hqt,show q.var.toNat=x by omega,h.dold _ hlo.1,h.dold _ hhi.1,h.dold _ hlo.1,h.dold _ hhi.1,(nb.deep_den hlo z b).2,(nb.deep_den hhi z b).2,anL z b hxy]
structure aFE (K0:KV) (l x y c:Nat) (p:abu) (a00 a01 a10 a11:Nat):Prop where
 at_:K0.A.list[c]?=some p
 tk:p.taken=true
 e0:K0.part y p.lo=(a00,a01)
 e1:K0.part y p.hi=(a10,a11)
 d00:Deep K0 l a00
 d01:Deep K0 l a01
 d10:Deep K0 l a10
 d11:Deep K0 l a11
 den:∀ z,K0.den c z=if z y then (if z x then K0.den a11 z else K0.den a01 z) else (if z x then K0.den a10 z else K0.den a00 z)
theorem Nb.four {K:KV} {l x y c:Nat} (h:Nb K l x y) (hc:K.Cross x y c):∃ p a00 a01 a10 a11,aFE K l x y c p a00 a01 a10 a11:=by
 obtain ⟨_,_,h1,_,_⟩:=h.facts;obtain ⟨h2,p,hp,hpt,hv,_⟩:=hc;have hb:=h.ok.ord.below h.ok.wf h2 hp hpt;have hcl:=h.ok.wf.cl c p h2 hp hpt;have e:=h.dep_at hp hv;obtain ⟨f1,f2,f3⟩:=h.part hcl.1 (by omega);obtain ⟨g1,g2,g3⟩:=h.part hcl.2 (by omega);refine ⟨p,(K.part y p.lo).1,(K.part y p.lo).2,(K.part y p.hi).1,(K.part y p.hi).2,hp,hpt,rfl,rfl,f1,f2,g1,g2,fun z=>?_⟩;rw [KV.den_node h.ok.wf h.ok.ord h2 hp hpt,show p.var.toNat=x by omega,f3,g3]
 cases z x <;> cases z y <;> rfl
theorem Nb.cross_y {K:KV} {l x y c:Nat} (h:Nb K l x y) (hc:K.Cross x y c) (hno:∀ z b,K.den c (upd z y b)=K.den c z):False:=by
 obtain ⟨_,_,_,_,hxy⟩:=h.facts;obtain ⟨h2,p,hp,hpt,hv,aPn⟩:=hc;have hcl:=h.ok.wf.cl c p h2 hp hpt
 have e:p.var.toNat=x:=by omega
 have key:∀ (k:Nat) (bx:Bool),(∀ z,K.den c (upd z x bx)=K.den k z)->K.A.tk k=true->K.vI k=(y:Int)->False:=fun k bx hk htk hvk=>by
  obtain ⟨q,hq,hqt⟩:=aaU.tk_iff.1 htk;rw [KV.vI_at hq] at hvk
  have h2k:2<=k:=by
   match k with
   | 0=>rw [h.ok.wf.ok.c0] at hq;cases hq;simp at hvk
   | 1=>rw [h.ok.wf.ok.c1] at hq;cases hq;simp at hvk
   | k+2=>omega
  refine h.ok.hangs h.un h2k hq hqt hvk fun z b=>?_
  rw [<- hk,<- hk]
  have ec:upd (upd z y b) x bx=upd (upd z x bx) y b:=by
   funext u
   simp only [upd]
   by_cases e1:u=x
   ·by_cases e2:u=y
    ·exact absurd (e1.symm.trans e2) hxy
    ·simp [e1,hxy]
   ·simp [e1]
  rw [ec,hno]
 rcases aPn with hk | hk
 ·exact key p.lo false (fun z=>by have:=KV.den_lo h.ok.wf h.ok.ord h2 hp hpt z;rw [e] at this;exact this) hcl.1 hk
 ·exact key p.hi true (fun z=>by have:=KV.den_hi h.ok.wf h.ok.ord h2 hp hpt z;rw [e] at this;exact this) hcl.2 hk
theorem Mid.turn {K0 K:KV} {l x y c lo hi a00 a01 a10 a11:Nat} {p:abu} {R:List Nat} {D:Nat->(Nat->Bool)->Bool} (h:Mid K0 l x y (c::R) K D) (nb:Nb K0 l x y) (F:aFE K0 l x y c p a00 a01 a10 a11)
  (hlo:Low K0 l x K lo) (hhi:Low K0 l x K hi) (dlo:∀ z,D lo z=if z x then K0.den a10 z else K0.den a00 z) (dhi:∀ z,D hi z=if z x then K0.den a11 z else K0.den a01 z) :
  Mid K0 l x y R (K.turnN c y lo hi) D/\lo≠hi/\K.A.list[c]?=some p:=by
 have hc:=h.rc c (by simp);have hcR:=(List.nodup_cons.1 h.rn).1;have hq:K.A.list[c]?=some p:=h.old c p F.at_ F.tk (.inr (by simp))
 have at_:=fun s=>amG (A:=K.A) (v:=(y:Int)) (lo:=lo) (hi:=hi) hq s
 have h2:2<=c:=hc.1;have t0:K0.A.tk c=true:=Nb.cross_tk hc
 have hne:lo≠hi:=by
  rintro rfl
  refine nb.cross_y hc fun z b=>?_
  have hz:∀ z,K0.den c z=D lo z:=fun z=>by
   rw [F.den];cases e:z y
   ·rw [dlo];rfl
   ·rw [dhi];rfl
  rw [hz,hz,h.low_den nb hlo]
 have nl:∀ {s:Nat},Low K0 l x K s->s≠c:=fun hs=>Low.ne_cross h nb hc hs (.inl (by simp))
 have mono:∀ {s:Nat},Low K0 l x K s->Low K0 l x (K.turnN c y lo hi) s:=fun {s} hs=>hs.mono fun q hq' _=>by
  show (K.A.setNode c (y:Int) lo hi).list[s]?=some q
  rw [at_,if_neg (nl hs)];exact hq'
 refine ⟨⟨h.vr,h.od,h.lv,h.hd,h.tr,?_,fun r hr=>h.rc r (List.mem_cons_of_mem _ hr),(List.nodup_cons.1 h.rn).2,fun r q hr hrt aBg=>?_,fun r hcr hr=>?_,fun r q hr hrt ht=>?_,fun r q h2r hr hrt z=>?_,h.dold⟩,hne,hq⟩
 ·show (K.A.setNode c (y:Int) lo hi).places=_
  rw [<- h.pl];simp only [aaU.setNode]
 ·show (K.A.setNode c (y:Int) lo hi).list[r]?=some q
  have hrc:r≠c:=by
   rintro rfl
   rcases aBg with hh | hh
   ·exact hh hc
   ·exact hcR hh
  rw [at_,if_neg hrc];exact h.old r q hr hrt (aBg.imp id (List.mem_cons_of_mem _))
 ·by_cases hrc:r=c
  ·subst hrc
   exact ⟨{ p with var:=(y:Int),lo:=lo,hi:=hi },by show (K.A.setNode r (y:Int) lo hi).list[r]?=_;rw [at_,if_pos rfl],F.tk,rfl,mono hlo,mono hhi,hne⟩
  ·obtain ⟨q,hr',hrt,hv,f1,f2,f3⟩:=h.cr r hcr (by simp [hrc,hr])
   exact ⟨q,by show (K.A.setNode c (y:Int) lo hi).list[r]?=_;rw [at_,if_neg hrc];exact hr',hrt,hv,mono f1,mono f2,f3⟩
 ·have hr':(K.A.setNode c (y:Int) lo hi).list[r]?=some q:=hr
  have hrc:r≠c:=by rintro rfl;rw [t0] at ht;cases ht
  rw [at_,if_neg hrc] at hr';exact h.nw r q hr' hrt ht
 ·have hr':(K.A.setNode c (y:Int) lo hi).list[r]?=some q:=hr
  by_cases hrc:r=c
  ·subst hrc
   rw [at_,if_pos rfl] at hr';cases hr'
   simp only [Int.toNat_natCast]
   rw [h.dold r t0,F.den,dlo,dhi]
  ·rw [at_,if_neg hrc] at hr'
   exact h.sem r q h2r hr' hrt z
end Go.Proofs.YtdackeldhdchaaaGreat
