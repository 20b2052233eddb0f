import Derived.Test.YtdackeldhdchaaaGreatPQ25
import Derived.Deep.QuietTactic
set_option maxRecDepth 100000
set_option maxHeartbeats 1600000
namespace Go.Proofs.YtdackeldhdchaaaGreat
open Go.RowKit Go.Maps Go.ChangeMaps Go.WideShapes
structure afF (w:World) (b:Nat) (K:KV) (T:List DM) (q:abM):Prop where
 mem:abv w b K T q
 ti:afg T K []
 ok:K.Ok
def ad1 (w:World) (b:Nat) (K:KV) (F:List Nat):Prop:=∃ T q,afF w b K T q/\F=q.all b
theorem afF.upd {w w':World} {b:Nat} {K:KV} {T:List DM} {q:abM} {S:List Nat} (h:afF w b K T q) (u:Upd S w w') (hd:∀ k,k∈q.all b->k∉S):afF w' b K T q:=⟨h.mem.upd u hd,h.ti,h.ok⟩
theorem ad1.upd {w w':World} {b:Nat} {K:KV} {F S:List Nat} (h:ad1 w b K F) (u:Upd S w w') (hd:∀ k,k∈F->k∉S):ad1 w' b K F:=by
 obtain ⟨T,q,h,rfl⟩:=h;exact ⟨T,q,h.upd u hd,rfl⟩
theorem ad1.ok {w:World} {b:Nat} {K:KV} {F:List Nat} (h:ad1 w b K F):K.Ok:=by obtain ⟨T,q,h,rfl⟩:=h;exact h.ok
theorem ad1.lt {w:World} {b:Nat} {K:KV} {F:List Nat} (h:ad1 w b K F):∀ k,k∈F->k<w.heap.size:=by obtain ⟨T,q,h,rfl⟩:=h;exact h.mem.lt
theorem Upd.trans0 {S:List Nat} {w w1 w2:World} (h:Upd [] w w1) (k:Upd S w1 w2):Upd S w w2:=(h.mono (by simp)).trans k
theorem KV.Wf.tk_lt {K:KV} {P:List Nat} (h:K.Wf P) {r:Nat} (h2:2<=r) (ht:K.A.tk r=true):r<K.uses.length/\r<K.holds.length/\K.uses.length<=1048576/\K.holds.length<=1048576:=by
 have h1:=h.tu r h2 ht;have h3:=h.len;have h4:=h.ul;have h5:=h.ok.lp;have h6:=h.ok.pm;omega
theorem afg.uni {T:List DM} {K:KV} {P:List Nat} (h:afg T K []) (hw:K.Wf P):K.Uni :=
 fun r s p c h2 h3 hp hc hpt hct e1 e2 e3=>h.uniq hw h2 h3 hp hc hpt hct (by simp) (by simp) (by simp [nkp,e1,e2,e3])
theorem ad1.uni {w:World} {b:Nat} {K:KV} {F:List Nat} (h:ad1 w b K F):K.Uni:=by obtain ⟨T,q,h,rfl⟩:=h;exact h.ti.uni h.ok.wf
theorem abv.keep0 {w:World} {b r:Nat} {K:KV} {T:List DM} {q:abM} (h:abv w b K T q) (hr:r<2) :
  ∃ q',abv (w.setCell ⟨b,7,none⟩ (.slice none 0 0)) b (K.keepK r) T q'/\Upd (q.all b) w (w.setCell ⟨b,7,none⟩ (.slice none 0 0))/\∀ k,k∈q'.all b->k∈q.all b:=by
 have hbm:b∈q.all b:=abM.mem.2 (.inl rfl)
 have e:K.keepK r={ K with trail:=[] }:=by unfold KV.keepK;rw [if_neg (by omega)]
 refine ⟨{ q with tv:=.slice none 0 0 },?_,(Upd.refl _ _).setCell (p:=⟨b,7,none⟩) (.inl hbm) _,?_⟩
 ·rw [e];exact h.noTrail
 ·intro k hk
  simp only [abM.mem,Value.ownBlock] at hk ⊢
  simp at hk
  rcases hk with hk | hk | hk | hk | hk | hk | hk <;> simp [hk]
theorem abv.keep1 {w:World} {b r g n c:Nat} {K:KV} {T:List DM} {q:abM} (h:abv w b K T q) (hw:K.Wf []) (hr:2<=r) (ht:K.A.tk r=true) (hq:q.hv=.slice (some ⟨g,0,none⟩) n c) (h0:0<K.hold r) :
  ∃ q',abv ((w.setCell ⟨g,r,none⟩ (.int .i32 ((K.hold r+1:Nat):Int))).setCell ⟨b,7,none⟩ (.slice none 0 0)) b (K.keepK r) T q'/\Upd (q.all b) w ((w.setCell ⟨g,r,none⟩ (.int .i32 ((K.hold r+1:Nat):Int))).setCell ⟨b,7,none⟩ (.slice none 0 0))/\∀ k,k∈q'.all b->k∈q.all b:=by
 have hbm:b∈q.all b:=abM.mem.2 (.inl rfl)
 have e:K.keepK r={ ({ K with holds:=K.holds.set r (K.hold r+1) }:KV) with trail:=[] }:=by unfold KV.keepK;rw [if_pos hr,if_neg (by omega)]
 have hg:g∈q.all b:=abM.mem.2 (.inr (.inr (.inr (.inr (.inl (by rw [hq];rfl))))));refine ⟨{ q with tv:=.slice none 0 0 },?_,((Upd.refl _ _).setCell (p:=⟨g,r,none⟩) (.inl hg) _).setCell (p:=⟨b,7,none⟩) (.inl hbm) _,?_⟩
 ·rw [e];exact (h.setHold hq (hw.tk_lt hr ht).2.1).noTrail
 ·intro k hk
  simp only [abM.mem,Value.ownBlock] at hk ⊢
  simp at hk
  rcases hk with hk | hk | hk | hk | hk | hk | hk <;> simp [hk]
theorem abv.keep2 {w:World} {b r g n c gu nu cu:Nat} {K:KV} {T:List DM} {q:abM} (h:abv w b K T q) (hw:K.Wf []) (hr:2<=r) (ht:K.A.tk r=true) (hq:q.hv=.slice (some ⟨g,0,none⟩) n c) (hqu:q.uv=.slice (some ⟨gu,0,none⟩) nu cu) (h0:K.hold r=0) :
  ∃ q',abv (((w.setCell ⟨g,r,none⟩ (.int .i32 1)).setCell ⟨gu,r,none⟩ (.int .i32 ((K.use r+1:Nat):Int))).setCell ⟨b,7,none⟩ (.slice none 0 0)) b (K.keepK r) T q'/\Upd (q.all b) w (((w.setCell ⟨g,r,none⟩ (.int .i32 1)).setCell ⟨gu,r,none⟩ (.int .i32 ((K.use r+1:Nat):Int))).setCell ⟨b,7,none⟩ (.slice none 0 0))/\∀ k,k∈q'.all b->k∈q.all b:=by
 have hbm:b∈q.all b:=abM.mem.2 (.inl rfl)
 have e:K.keepK r={ ({ ({ K with holds:=K.holds.set r 1 }:KV) with uses:=K.uses.set r (K.use r+1) }) with trail:=[] }:=by unfold KV.keepK;rw [if_pos hr,if_pos h0,h0]
 have hg:g∈q.all b:=abM.mem.2 (.inr (.inr (.inr (.inr (.inl (by rw [hq];rfl))))));have hg2:gu∈q.all b:=abM.mem.2 (.inr (.inr (.inr (.inl (by rw [hqu];rfl)))));refine ⟨{ q with tv:=.slice none 0 0 },?_,(((Upd.refl _ _).setCell (p:=⟨g,r,none⟩) (.inl hg) _).setCell (p:=⟨gu,r,none⟩) (.inl hg2) _).setCell (p:=⟨b,7,none⟩) (.inl hbm) _,?_⟩
 ·rw [e];exact ((h.setHold (n:=1) hq (hw.tk_lt hr ht).2.1).setUse hqu (hw.tk_lt hr ht).1).noTrail
 ·intro k hk
  simp only [abM.mem,Value.ownBlock] at hk ⊢
  simp at hk
  rcases hk with hk | hk | hk | hk | hk | hk | hk <;> simp [hk]
theorem aIp (b r:Nat) (K:KV) (T:List DM) (q:abM) (w:World) (h:afF w b K T q) (hr:r<=4294967295) (ht:K.A.tk r=true) (hf:K.hold r=65535) :
  Calls Tryz.prog 93 #[.pointer (some ⟨b,0,none⟩),.int .u32 r] w fun e w'=>e=.returned (.int .i64 8)/\Upd [] w w':=by
 have h2:=(h.ok.wf.ht r (by omega)).1;have hl:=h.ok.wf.tk_lt h2 ht
 have hd:(1:Int)<(r:Int):=by omega
 have HT:=Lib.hid ht;have HM:=Lib.hid h.mem;have HF:=Lib.hid hf;clear h ht hf
 go_enter Tryz.func93,Tryz.ntmps93
 go_wp2_with fail;refine (af1 b r K T q _ HM.out hr).mono ?_;rintro e w1 ⟨rfl,hu⟩;rw [HT.out];have m1:=HM.out.upd hu (by simp);obtain ⟨gh,ch,hqh,c3,ch1,fh1,hgh⟩:=m1.holdCell hl.2.1;rw [HF.out] at ch1
 have hrl:(r:Int)<(K.holds.length:Int):=by omega
 have HU:=Lib.hid hu;clear hu m1 hqh hgh;go_wp2_with fail;go_ret;exact ⟨rfl,HU.out⟩
theorem aEA (b r:Nat) (K:KV) (T:List DM) (q:abM) (w:World) (h:abv w b K T q) (hw:K.Wf []) (hr:r<=4294967295) (ht:K.A.tk r=true) (hf:K.hold r<65535) :
  Calls Tryz.prog 93 #[.pointer (some ⟨b,0,none⟩),.int .u32 r] w fun e w'=>e=.returned (.int .i64 0)/\∃ q',abv w' b (K.keepK r) T q'/\Upd (q.all b) w w'/\∀ k,k∈q'.all b->k∈q.all b:=by
 have HT:=Lib.hid ht;have HM:=Lib.hid h;have HW:=Lib.hid hw
 by_cases h2:2<=r
 ·have hl:=hw.tk_lt h2 ht
  have hd:(1:Int)<(r:Int):=by omega
  have hub:K.use r+1<=2147483647:=by have:=hw.use_le h2 ht;simp at this;omega
  clear h hw ht
  by_cases h0:K.hold r=0
  ·have H0:=Lib.hid h0
   go_enter Tryz.func93,Tryz.ntmps93
   go_wp2_with fail;refine (af1 b r K T q _ HM.out hr).mono ?_;rintro e w1 ⟨rfl,hu⟩;rw [HT.out];have m1:=HM.out.upd hu (by simp);obtain ⟨gh,ch,hqh,c3,ch1,fh1,hgh⟩:=m1.holdCell hl.2.1;obtain ⟨gu,cu,hqu,c2,cu1,fu1,hgu⟩:=m1.useCell hl.1;rw [H0.out] at ch1;have hb:=m1.blk;have fb:=abq 7 hb;have c7:w1.cell? ⟨b,7,none⟩=some q.tv:=aac hb rfl
   have ngh:gu≠gh:=by
    rintro rfl;have e1:=m1.ou gu (by rw [hqu];rfl);have e2:=m1.oh gu (by rw [hqh];rfl);omega
   have nbu:b≠gu:=by
    rintro rfl;have e1:=m1.ou b (by rw [hqu];rfl);have e2:=m1.ob;omega
   have nbh:b≠gh:=by
    rintro rfl;have e1:=m1.oh b (by rw [hqh];rfl);have e2:=m1.ob;omega
   have hrl:(r:Int)<(K.holds.length:Int):=by omega
   have aQy:(r:Int)<(K.uses.length:Int):=by omega
   have HU:=Lib.hid hu;have HE:=Lib.hid (m1.keep2 HW.out h2 HT.out hqh hqu h0);clear hu m1 hqh hgh hqu hgu hb;go_wp2_with fail;go_ret;obtain ⟨q',a1,a2,a3⟩:=HE.out;exact ⟨rfl,q',by simpa using a1,by simpa using HU.out.trans0 a2,a3⟩
  ·go_enter Tryz.func93,Tryz.ntmps93
   go_wp2_with fail;refine (af1 b r K T q _ HM.out hr).mono ?_;rintro e w1 ⟨rfl,hu⟩;rw [HT.out];have m1:=HM.out.upd hu (by simp);obtain ⟨gh,ch,hqh,c3,ch1,fh1,hgh⟩:=m1.holdCell hl.2.1;have hb:=m1.blk;have fb:=abq 7 hb;have c7:w1.cell? ⟨b,7,none⟩=some q.tv:=aac hb rfl
   have nbh:b≠gh:=by
    rintro rfl;have e1:=m1.oh b (by rw [hqh];rfl);have e2:=m1.ob;omega
   have hrl:(r:Int)<(K.holds.length:Int):=by omega
   have hn1:decide ((K.hold r:Int)=65535)=false:=by simp;omega
   have hn2:decide ((K.hold r:Int)+1=1)=false:=by simp;omega
   have hn3:¬ ((K.hold r:Int)=65535):=by omega
   have hn4:¬ ((K.hold r:Int)+1=1):=by omega
   have HU:=Lib.hid hu;have HE:=Lib.hid (m1.keep1 HW.out h2 HT.out hqh (by omega));clear hu m1 hqh hgh hb;go_wp2_with fail;go_ret;obtain ⟨q',a1,a2,a3⟩:=HE.out;exact ⟨rfl,q',by simpa using a1,by simpa using HU.out.trans0 a2,a3⟩
 ·have hd:decide ((1:Int)<(r:Int))=false:=by simp;omega
  have hd2:decide (1<r)=false:=by simp;omega
  have hr2:r<2:=by omega
  clear h hw ht h2
  go_enter Tryz.func93,Tryz.ntmps93
  go_wp2_with fail;refine (af1 b r K T q _ HM.out hr).mono ?_;rintro e w1 ⟨rfl,hu⟩;rw [HT.out];have m1:=HM.out.upd hu (by simp);have hb:=m1.blk;have fb:=abq 7 hb;have c7:w1.cell? ⟨b,7,none⟩=some q.tv:=aac hb rfl;have HU:=Lib.hid hu;have HE:=Lib.hid (m1.keep0 hr2);clear hu m1 hb;go_wp2_with fail;go_ret;obtain ⟨q',a1,a2,a3⟩:=HE.out;exact ⟨rfl,q',a1,HU.out.trans0 a2,a3⟩
theorem aEC (b r:Nat) (K:KV) (T:List DM) (q:abM) (w:World) (h:afF w b K T q) (hr:r<=4294967295) (ht:K.A.tk r=true) :
  Calls Tryz.prog 93 #[.pointer (some ⟨b,0,none⟩),.int .u32 r] w fun e w'=>∃ (code:Int) (K':KV) (q':abM),e=.returned (.int .i64 code)/\((code=8/\K.hold r=65535/\K'=K)\/(code=0/\K.hold r<65535/\K'=K.keepK r)) /\
   afF w' b K' T q'/\Upd (q.all b) w w'/\∀ k,k∈q'.all b->k∈q.all b:=by
 have hm:=h.ok.wf.hm r
 by_cases hf:K.hold r=65535
 ·refine (aIp b r K T q w h hr ht hf).mono ?_
  rintro e w1 ⟨rfl,hu⟩;exact ⟨8,K,q,rfl,.inl ⟨rfl,hf,rfl⟩,h.upd hu (by simp),hu.mono (by simp),fun k hk=>hk⟩
 ·refine (aEA b r K T q w h.mem h.ok.wf hr ht (by omega)).mono ?_
  rintro e w1 ⟨rfl,q',a1,a2,a3⟩;have hk:=h.ok.kept ht (by omega);exact ⟨0,K.keepK r,q',rfl,.inr ⟨rfl,by omega,rfl⟩,⟨a1,h.ti.same (K.keepK_A r) (K.keepK_vars r),hk.1⟩,a2,a3⟩
theorem abv.levCell {w:World} {b v:Nat} {K:KV} {T:List DM} {q:abM} (h:abv w b K T q) (hv:v<K.level.length) :
  ∃ g c,q.lv=.slice (some ⟨g,0,none⟩) K.level.length c/\w.cell? ⟨b,6,none⟩=some (.slice (some ⟨g,0,none⟩) K.level.length c)/\w.cell? ⟨g,v,none⟩=some (.int .i64 (K.lev v))/\w.frozen? ⟨g,v,none⟩=false/\g∈q.all b:=by
 have hu:=h.ls;obtain ⟨g,c,hq,_,_⟩:=hu.form (by omega);refine ⟨g,c,hq,by rw [<- hq];exact aac h.blk rfl,?_,?_,abM.mem.2 (.inr (.inr (.inr (.inr (.inr (.inr (.inl (by rw [hq];rfl))))))))⟩
 ·rw [hq] at hu
  refine abf hu ?_
  simp [acf,KV.lev,hv]
 ·rw [hq] at hu;exact aci hu v
def KV.isVar (K:KV) (v:Int):Bool:=decide (0<=v/\v<K.vars)
theorem ahN (b:Nat) (v:Int) (K:KV) (T:List DM) (q:abM) (w:World) (h:abv w b K T q) :
  Calls Tryz.prog 106 #[.pointer (some ⟨b,0,none⟩),.int .i64 v] w fun e w'=>e=.returned (.bool (K.isVar v))/\w'=w:=by
 have c4:w.cell? ⟨b,4,none⟩=some (.int .i64 K.vars):=aac h.blk rfl;have HV:Hid (K.isVar v=decide (0<=v/\v<K.vars)):=rfl;clear h
 by_cases h0:0<=v
 ·go_enter Tryz.func106,Tryz.ntmps106
  go_wp2_with fail;go_ret;exact ⟨by rw [HV.out];simp [h0],rfl⟩
 ·have hd:decide (0<=v)=false:=by simp;omega
  have HN:=Lib.hid h0;clear h0
  go_enter Tryz.func106,Tryz.ntmps106
  go_wp2_with fail;go_ret;exact ⟨by rw [HV.out];have:=HN.out;simp;omega,rfl⟩
theorem azp (b r:Nat) (K:KV) (T:List DM) (q:abM) (w:World) (h:abv w b K T q) (hw:K.Wf []) (ho:K.Ord) (hr:r<=4294967295) (ht:K.A.tk r=true) :
  Calls Tryz.prog 210 #[.pointer (some ⟨b,0,none⟩),.int .u32 r] w fun e w'=>e=.returned (.int .i64 (K.dep r))/\Upd [] w w':=by
 obtain ⟨p,hp,hpt⟩:=aaU.tk_iff.1 ht;have hll:=ho.pm.ll;have hvs:=hw.vs;have hbl:=aa4 h.blk;have HP:=Lib.hid hp;have HPT:=Lib.hid hpt;have HM:=Lib.hid h
 by_cases h2:2<=r
 ·obtain ⟨p',v,hp',aCr,hv,hvl,_,_,hd⟩:=hw.node_at h2 ht
  rw [hp] at hp';cases hp'
  have HV:=Lib.hid hv;have HD:=Lib.hid hd
  have aX3:v<K.level.length:=by omega
  clear h hw ho ht hp hpt aCr hd
  go_enter Tryz.func210,Tryz.ntmps210
  go_wp2_with fail;refine (aiS b r K T q p w HM.out hr HP.out HPT.out).mono ?_;rintro e w1 ⟨rfl,hu⟩;rw [HV.out];have m1:=(HM.out.upd hu (by simp)).upd ((Upd.refl [] w1).alloc (.cells #[.int .i64 (v:Int),.int .u32 p.lo,.int .u32 p.hi] 142 (0,0))) (by simp);obtain ⟨gl,cl,_,c6,cv,_,_⟩:=m1.levCell aX3;have hn:=heap_alloc_new w1 (.cells #[.int .i64 (v:Int),.int .u32 p.lo,.int .u32 p.hi] 142 (0,0));have b0:(w1.alloc (.cells #[.int .i64 (v:Int),.int .u32 p.lo,.int .u32 p.hi] 142 (0,0))).cell? ⟨w1.heap.size,0,none⟩=some (.int .i64 v):=aac hn rfl
  have hvi:(v:Int)<(K.level.length:Int):=by omega
  have hls:K.level.length<=64:=by omega
  have HU:=Lib.hid hu;clear hu m1 hn hv;go_wp2_with fail
  go_quiet (fail)
  go_wp2_with fail;go_ret;exact ⟨by rw [HD.out];rfl,(HU.out.alloc _).drewN _⟩
 ·have hd:=hw.dep_const (r:=r) (by omega)
  have hv:p.var=-1:=by
   match r,h2,hp with
   | 0,_,hp=>rw [hw.ok.c0] at hp;cases hp;rfl
   | 1,_,hp=>rw [hw.ok.c1] at hp;cases hp;rfl
   | r+2,h2,_=>omega
  have HD:=Lib.hid hd;have HV:=Lib.hid hv;clear h hw ho ht hp hpt hd hv
  go_enter Tryz.func210,Tryz.ntmps210
  go_wp2_with fail;refine (aiS b r K T q p w HM.out hr HP.out HPT.out).mono ?_;rintro e w1 ⟨rfl,hu⟩;rw [HV.out];have m1:=(HM.out.upd hu (by simp)).upd ((Upd.refl [] w1).alloc (.cells #[.int .i64 (-1),.int .u32 p.lo,.int .u32 p.hi] 142 (0,0))) (by simp);have c4:(w1.alloc (.cells #[.int .i64 (-1),.int .u32 p.lo,.int .u32 p.hi] 142 (0,0))).cell? ⟨b,4,none⟩=some (.int .i64 K.vars):=aac m1.blk rfl;have hn:=heap_alloc_new w1 (.cells #[.int .i64 (-1),.int .u32 p.lo,.int .u32 p.hi] 142 (0,0));have b0:(w1.alloc (.cells #[.int .i64 (-1),.int .u32 p.lo,.int .u32 p.hi] 142 (0,0))).cell? ⟨w1.heap.size,0,none⟩=some (.int .i64 (-1)):=aac hn rfl;have HU:=Lib.hid hu;clear hu m1 hn;go_wp2_with fail;go_ret;exact ⟨by rw [HD.out];rfl,HU.out.alloc _⟩
def KV.fitsE (K:KV) (v:Int) (lo hi:Nat):Int :=
 if K.isVar v=false then 2 else if K.A.tk lo=false\/K.A.tk hi=false then 3 else if lo≠hi/\¬ K.lev v.toNat<min (K.dep lo) (K.dep hi) then 4 else 0
structure Still (w:World) where
 x:World
 u:Upd [] w x
instance (w:World):Nonempty (Still w):=⟨⟨w,Upd.refl _ _⟩⟩
theorem wp_region_still {P:Program} {id:Nat} {Q:Exit->Act->World->Prop} {a:Act} {w:World} {l:List Oper} (hm:P.follows .mixedOrders=true) (hB:Region.lexB .any l.toArray=true)
  (h:wpQuiet P l.toArray (fun w'=>∃ n:Still w,w'=n.x) (fun a'=>∀ w',(∃ n:Still w,w'=n.x)->Q .normal a' w') l a):(Code.region id l.toArray true).wp P Q a w :=
 wp_region_quiet (C:=fun w'=>∃ n:Still w,w'=n.x) hm hB ⟨⟨_,(Upd.refl [] w).drew⟩,rfl⟩ (by rw [List.toList_toArray];exact h)
theorem Still.cell {w:World} (n:Still w) {a:Addr} {v:Value} (h:w.cell? a=some v):n.x.cell? a=some v:=(n.u.cell (World.block_lt_of_cell? _ _ h) (by simp)).trans h
theorem avY (b:Nat) (v:Int) (lo hi:Nat) (K:KV) (T:List DM) (q:abM) (w:World) (h:abv w b K T q) (hw:K.Wf []) (ho:K.Ord) (h1:lo<=4294967295) (h2:hi<=4294967295) :
  Calls Tryz.prog 171 #[.pointer (some ⟨b,0,none⟩),.int .i64 v,.int .u32 lo,.int .u32 hi] w fun e w'=>e=.returned (.int .i64 (K.fitsE v lo hi))/\Upd [] w w':=by
 have HM:=Lib.hid h;have HW:=Lib.hid (And.intro hw ho)
 cases hV:K.isVar v with
 | false =>
  have HV:=Lib.hid hV;clear h hw ho hV
  go_enter Tryz.func171,Tryz.ntmps171
  go_wp2_with fail;refine (ahN b v K T q w HM.out).mono ?_;rintro e w1 ⟨rfl,rfl⟩;rw [HV.out];go_wp2_with fail;go_ret;exact ⟨by unfold KV.fitsE;rw [if_pos HV.out];rfl,Upd.refl _ _⟩
 | true =>
  have HV:=Lib.hid hV
  have hv0:∃ n:Nat,v=(n:Int)/\n<K.vars:=by
   simp [KV.isVar] at hV
   exact ⟨v.toNat,by omega,by omega⟩
  obtain ⟨n,rfl,hn⟩:=hv0
  cases hl:K.A.tk lo with
  | false =>
   have HL:=Lib.hid hl;clear h hw ho hV hl
   go_enter Tryz.func171,Tryz.ntmps171
   go_wp2_with fail;refine (ahN b n K T q w HM.out).mono ?_;rintro e w1 ⟨rfl,rfl⟩;rw [HV.out];go_wp2_with fail;refine (af1 b lo K T q _ HM.out h1).mono ?_;rintro e w2 ⟨rfl,hu⟩;rw [HL.out];have HU:=Lib.hid hu;clear hu;go_wp2_with fail;go_ret;exact ⟨by unfold KV.fitsE;rw [if_neg (by rw [HV.out];simp),if_pos (.inl HL.out)];rfl,HU.out⟩
  | true =>
   have HL:=Lib.hid hl
   cases hh:K.A.tk hi with
   | false =>
    have HH:=Lib.hid hh;clear h hw ho hV hl hh
    go_enter Tryz.func171,Tryz.ntmps171
    go_wp2_with fail;refine (ahN b n K T q w HM.out).mono ?_;rintro e w1 ⟨rfl,rfl⟩;rw [HV.out];go_wp2_with fail;refine (af1 b lo K T q _ HM.out h1).mono ?_;rintro e w2 ⟨rfl,hu⟩;rw [HL.out];have HU:=Lib.hid hu;clear hu;go_wp2_with fail;refine (af1 b hi K T q _ (HM.out.upd HU.out (by simp)) h2).mono ?_;rintro e w3 ⟨rfl,hu⟩;rw [HH.out];have HU2:=Lib.hid (HU.out.trans hu);clear hu;go_wp2_with fail;go_ret;exact ⟨by unfold KV.fitsE;rw [if_neg (by rw [HV.out];simp),if_pos (.inr HH.out)];rfl,HU2.out⟩
   | true =>
    have HH:=Lib.hid hh
    by_cases hlh:lo=hi
    ·subst hlh
     clear h hw ho hV hl hh
     go_enter Tryz.func171,Tryz.ntmps171
     go_wp2_with fail;refine (ahN b n K T q w HM.out).mono ?_;rintro e w1 ⟨rfl,rfl⟩;rw [HV.out];go_wp2_with fail;refine (af1 b lo K T q _ HM.out h1).mono ?_;rintro e w2 ⟨rfl,hu⟩;rw [HL.out];have HU:=Lib.hid hu;clear hu;go_wp2_with fail;refine (af1 b lo K T q _ (HM.out.upd HU.out (by simp)) h2).mono ?_;rintro e w3 ⟨rfl,hu⟩;rw [HH.out];have HU2:=Lib.hid (HU.out.trans hu);clear hu;go_wp2_with fail
     go_quiet (fail)
     go_wp2_with fail;go_ret;exact ⟨by unfold KV.fitsE;rw [if_neg (by rw [HV.out];simp),if_neg (by rw [HL.out];simp),if_neg (by simp)];rfl,HU2.out.drewN _⟩
    ·have HLH:=Lib.hid hlh
     have hd:decide ((lo:Int)=(hi:Int))=false:=by simp;omega
     have hd2:¬ ((lo:Int)=(hi:Int)):=by omega
     have hd3:((lo:Int) != (hi:Int))=true:=by simp;omega
     clear h hw ho hV hl hh
     go_enter Tryz.func171,Tryz.ntmps171
     go_wp2_with fail;refine (ahN b n K T q w HM.out).mono ?_;rintro e w1 ⟨rfl,rfl⟩;rw [HV.out];go_wp2_with fail;refine (af1 b lo K T q _ HM.out h1).mono ?_;rintro e w2 ⟨rfl,hu⟩;rw [HL.out];have HU:=Lib.hid hu;clear hu;go_wp2_with fail;refine (af1 b hi K T q _ (HM.out.upd HU.out (by simp)) h2).mono ?_;rintro e w3 ⟨rfl,hu⟩;rw [HH.out];have HU2:=Lib.hid (HU.out.trans hu);clear hu;have hll:=HW.out.2.pm.ll;have hvs:=HW.out.1.vs;obtain ⟨gl,cl,hql,c6,cv,_,hgl⟩:=(HM.out.upd HU2.out (by simp)).levCell (show n<K.level.length by omega)
     have hvi:(n:Int)<(K.level.length:Int):=by omega
     have hls:K.level.length<=64:=by omega
     clear hll hql hgl
     have q6:∀ n':Still w3,n'.x.cell? ⟨b,6,none⟩=some (.slice (some ⟨gl,0,none⟩) K.level.length cl):=fun n'=>n'.cell c6
     have qv:∀ n':Still w3,n'.x.cell? ⟨gl,n,none⟩=some (.int .i64 (K.lev n)):=fun n'=>n'.cell cv
     have HD1:Hid (∀ n':Still w3,Calls Tryz.prog 210 #[.pointer (some ⟨b,0,none⟩),.int .u32 lo] n'.x fun e w''=>e=.returned (.int .i64 (K.dep lo))/\∃ m:Still w3,w''=m.x):=fun n' =>
      (azp b lo K T q _ (HM.out.upd (HU2.out.trans n'.u) (by simp)) HW.out.1 HW.out.2 h1 HL.out).mono fun _ _ ⟨a,u⟩=>⟨a,⟨_,n'.u.trans u⟩,rfl⟩
     have HD2:Hid (∀ n':Still w3,Calls Tryz.prog 210 #[.pointer (some ⟨b,0,none⟩),.int .u32 hi] n'.x fun e w''=>e=.returned (.int .i64 (K.dep hi))/\∃ m:Still w3,w''=m.x):=fun n' =>
      (azp b hi K T q _ (HM.out.upd (HU2.out.trans n'.u) (by simp)) HW.out.1 HW.out.2 h2 HH.out).mono fun _ _ ⟨a,u⟩=>⟨a,⟨_,n'.u.trans u⟩,rfl⟩
     clear c6 cv;go_wp2_with fail;refine wp_region_still (by kernel_rfl) (by kernel_rfl) ?_
     repeat (quiet_step ((first | (go_at_call_of 210 (Value.int IntKind.u32 (lo:Int));exact HD1.out _) | (go_at_call_of 210 (Value.int IntKind.u32 (hi:Int));exact HD2.out _))))
     refine wpQuiet_nil ?_;rintro _ ⟨nq,rfl⟩;have HN:=Lib.hid (HU2.out.trans nq.u)
     have HF:Hid (K.fitsE n lo hi=if ¬ K.lev n<min (K.dep lo) (K.dep hi) then 4 else 0):=by
      show K.fitsE n lo hi=_
      unfold KV.fitsE;rw [if_neg (by rw [HV.out];simp),if_neg (by rw [HL.out,HH.out];simp),Int.toNat_natCast]
      simp only [HLH.out,ne_eq,not_false_eq_true,true_and]
     generalize hmm:(if K.dep hi<K.dep lo then ((K.dep hi:Nat):Int) else ((K.dep lo:Nat):Int))=mm;have HMM:=Lib.hid hmm;clear hmm
     cases hdd:decide (mm<=(K.lev n:Int)) with
     | true =>
      have HF4:Hid (K.fitsE n lo hi=4):=by
       have hh:=of_decide_eq_true hdd;have hmm:=HMM.out
       show K.fitsE n lo hi=4
       rw [HF.out,if_pos (by split at hmm <;> omega)]
      go_wp2_with fail;go_ret;exact ⟨by rw [HF4.out];rfl,HN.out⟩
     | false =>
      have HF4:Hid (K.fitsE n lo hi=0):=by
       have hh:=of_decide_eq_false hdd;have hmm:=HMM.out
       show K.fitsE n lo hi=0
       rw [HF.out,if_neg (by split at hmm <;> omega)]
      go_wp2_with fail;go_ret;exact ⟨by rw [HF4.out];rfl,HN.out⟩
def KV.At (K:KV) (r v lo hi:Nat):Prop:=2<=r/\∃ p,K.A.list[r]?=some p/\p.taken=true/\p.var=(v:Int)/\p.lo=lo/\p.hi=hi
theorem KV.At.tk {K:KV} {r v lo hi:Nat} (h:K.At r v lo hi):K.A.tk r=true:=by
 obtain ⟨_,p,hp,hpt,_⟩:=h;exact aaU.tk_iff.2 ⟨p,hp,hpt⟩
theorem KV.At.lt {K:KV} {P:List Nat} {r v lo hi:Nat} (h:K.At r v lo hi) (hw:K.Wf P):r<=1048575:=by
 have h1:=hw.tu r h.1 h.tk;have h4:=hw.ul;have h5:=hw.ok.lp;have h6:=hw.ok.pm;omega
theorem afg.look {T:List DM} {K:KV} {P:List Nat} {v lo hi:Nat} {D:DM} (h:afg T K []) (hw:K.Wf P) (hv:v<K.vars) (hD:T[v]?=some D) (h1:lo<=4294967295) (h2:hi<=4294967295) {c:Int} (hc:D.atKey (nk v lo hi) (.lit (.int .u32 0))=.lit (.int .u32 c)) :
  (Maps.has D (nk v lo hi)=true/\∃ r:Nat,c=(r:Int)/\K.At r v lo hi)\/(Maps.has D (nk v lo hi)=false/\c=0/\∀ r,¬ K.At r v lo hi):=by
 have hvs:=hw.vs
 cases hh:Maps.has D (nk v lo hi) with
 | true =>
  left;obtain ⟨r,p,hr,hp,hpt,hpv,hk,_⟩:=h.dom v D _ hD hh;have h4:=hw.ok.u32 p (List.mem_of_getElem? hp);have hvr:=hw.vr r p hr hp hpt;obtain ⟨e1,e2,e3⟩:=atK (wfI (by omega) (by omega)) (wfR h1) (wfR h2) (wfI (by omega) (by omega)) (wfR h4.1) (wfR h4.2.1) hk;have hat:=(h.at_ r p D hr hp hpt (by simp) (by rw [hpv];exact hD)).2 (.lit (.int .u32 0));rw [<- hk,hc] at hat
  simp at hat
  exact ⟨rfl,r,hat,hr,p,hp,hpt,hpv,e2.symm,e3.symm⟩
 | false =>
  right;rw [atKey_of_not_has hh] at hc
  simp at hc
  refine ⟨rfl,hc.symm,?_⟩;rintro r ⟨hr,p,hp,hpt,e1,e2,e3⟩;have:=(h.at_ r p D hr hp hpt (by simp) (by rw [e1];exact hD)).1;rw [show nkp p=nk v lo hi by simp [nkp,e1,e2,e3],hh] at this;cases this
theorem afg.not_has {T:List DM} {K:KV} {v lo hi:Nat} {D:DM} (h:afg T K []) (hD:T[v]?=some D) (hno:∀ r,¬ K.At r v lo hi) (hw:K.Wf []) (hv:v<K.vars) (h1:lo<=4294967295) (h2:hi<=4294967295):Maps.has D (nk v lo hi)=false:=by
 have hvs:=hw.vs
 cases hh:Maps.has D (nk v lo hi) with
 | false=>rfl
 | true =>
  exfalso
  obtain ⟨r,p,hr,hp,hpt,hpv,hk,_⟩:=h.dom v D _ hD hh;have h4:=hw.ok.u32 p (List.mem_of_getElem? hp);have hvr:=hw.vr r p hr hp hpt;obtain ⟨e1,e2,e3⟩:=atK (wfI (by omega) (by omega)) (wfR h1) (wfR h2) (wfI (by omega) (by omega)) (wfR h4.1) (wfR h4.2.1) hk;exact hno r ⟨hr,p,hp,hpt,hpv,e2.symm,e3.symm⟩
theorem aIq (b r:Nat) (v:Int) (w:World) :
  Calls Tryz.prog 172 #[.pointer (some ⟨b,0,none⟩),.int .i64 v,.int .u32 r,.int .u32 r] w fun e w'=>e=.returned (.tuple #[.int .u32 r,.bool true])/\w'=w:=by
 go_enter Tryz.func172,Tryz.ntmps172
 go_wp2_with fail;go_ret2;exact ⟨rfl,rfl⟩
theorem aIr (b v lo hi:Nat) (K:KV) (T:List DM) (q:abM) (w:World) (h:abv w b K T q) (hw:K.Wf []) (ht:afg T K []) (hv:v<K.vars) (h1:lo<=4294967295) (h2:hi<=4294967295) (hne:lo≠hi) :
  Calls Tryz.prog 172 #[.pointer (some ⟨b,0,none⟩),.int .i64 v,.int .u32 lo,.int .u32 hi] w fun e w' =>
   Upd [] w w'/\((∃ r:Nat,e=.returned (.tuple #[.int .u32 r,.bool true])/\K.At r v lo hi)\/(e=.returned (.tuple #[.int .u32 0,.bool false])/\∀ r,¬ K.At r v lo hi)):=by
 have hlen:=ht.len;have hD:T[v]?=some (T[v]'(by omega)):=List.getElem?_eq_getElem (by omega);generalize T[v]'(by omega)=D at hD;have c1:w.cell? ⟨b,1,none⟩=some (.pointer (some ⟨q.t,0,none⟩)):=aac h.blk rfl;have HT:=Lib.hid h.tab;have HD:=Lib.hid hD;have HL:=Lib.hid (And.intro hw ht)
 have hd:¬ ((lo:Int)=(hi:Int)):=by omega
 have hd3:((lo:Int) == (hi:Int))=false:=by simp;omega
 clear h hw ht hlen hD
 go_enter Tryz.func172,Tryz.ntmps172
 go_wp2_with fail;refine (find_spec q.t q.FT v lo hi T D _ HT.out HD.out h1 h2).mono ?_;rintro e w1 ⟨c,rfl,hc,hu⟩;have HC:=Lib.hid (HL.out.2.look HL.out.1 hv HD.out h1 h2 hc);have HU:=Lib.hid hu;clear hc hu;generalize Maps.has D (nk v lo hi)=bb at HC;go_wp2_with fail;go_ret2;refine ⟨HU.out,?_⟩
 rcases HC.out with ⟨rfl,r,rfl,ha⟩ | ⟨rfl,rfl,hno⟩
 ·exact .inl ⟨r,rfl,ha⟩
 ·exact .inr ⟨rfl,hno⟩
theorem Sub.of_old {S S':List Nat} {w:World} (h:∀ k,k∈S'->k∈S):Sub S w S':=fun k hk=>.inl (h k hk)
def KV.Has (K:KV) (v:Int) (lo hi r:Nat):Prop:=(lo=hi/\r=lo)\/(lo≠hi/\K.At r v.toNat lo hi)
inductive amB (K:KV) (v:Int) (lo hi:Nat):Nat->Int->KV->Prop
 | bad (h0:K.fitsE v lo hi≠0):amB K v lo hi 0 (K.fitsE v lo hi) K
 | full {r:Nat} (h0:K.fitsE v lo hi=0) (hs:K.Has v lo hi r) (hm:K.hold r=65535):amB K v lo hi 0 8 K
 | old {r:Nat} (h0:K.fitsE v lo hi=0) (hs:K.Has v lo hi r) (hm:K.hold r<65535):amB K v lo hi r 0 (K.keepK r)
 | nodes (h0:K.fitsE v lo hi=0) (hne:lo≠hi) (hno:∀ r,¬ K.At r v.toNat lo hi) (hu:K.A.used=K.A.places):amB K v lo hi 0 9 K
 | new {r:Nat} {K':KV} (h0:K.fitsE v lo hi=0) (hne:lo≠hi) (hno:∀ r,¬ K.At r v.toNat lo hi) (hm:K.Made v.toNat lo hi r K'):amB K v lo hi r 0 K'
theorem KV.fits0 {K:KV} {v:Int} {lo hi:Nat} (h:K.fitsE v lo hi=0):∃ n:Nat,v=(n:Int)/\n<K.vars/\K.A.tk lo=true/\K.A.tk hi=true/\(lo≠hi->K.lev n<K.dep lo/\K.lev n<K.dep hi):=by
 unfold KV.fitsE at h
 split at h
 ·omega
 ·rename_i h1
  split at h
  ·omega
  ·rename_i h2
   split at h
   ·omega
   ·rename_i h3
    simp [KV.isVar] at h1
    refine ⟨v.toNat,by omega,by omega,?_,?_,fun hne=>?_⟩
    ·cases e:K.A.tk lo
     ·exact absurd (.inl e) h2
     ·rfl
    ·cases e:K.A.tk hi
     ·exact absurd (.inr e) h2
     ·rfl
    ·by_cases h4:K.lev v.toNat<min (K.dep lo) (K.dep hi)
     ·omega
     ·exact absurd ⟨hne,h4⟩ h3
theorem amB.of_keep {K:KV} {v:Int} {lo hi r:Nat} {code:Int} {K':KV} (h0:K.fitsE v lo hi=0) (hs:K.Has v lo hi r) (h:(code=8/\K.hold r=65535/\K'=K)\/(code=0/\K.hold r<65535/\K'=K.keepK r)) :
  amB K v lo hi (if code=0 then r else 0) code K':=by
 rcases h with ⟨rfl,h,rfl⟩ | ⟨rfl,h,rfl⟩
 ·exact .full h0 hs h
 ·exact .old h0 hs h
theorem aHh (b:Nat) (v:Int) (lo hi:Nat) (K:KV) (T:List DM) (q:abM) (w:World) (h:afF w b K T q) (h1:lo<=4294967295) (h2:hi<=4294967295) :
  Calls Tryz.prog 117 #[.pointer (some ⟨b,0,none⟩),.int .i64 v,.int .u32 lo,.int .u32 hi] w fun e w' =>
   ∃ (r:Nat) (code:Int) (K':KV) (T':List DM) (q':abM),e=.returned (.tuple #[.int .u32 r,.int .i64 code])/\amB K v lo hi r code K'/\afF w' b K' T' q'/\Upd (q.all b) w w'/\Sub (q.all b) w (q'.all b):=by
 have HK:=Lib.hid h
 by_cases hf:K.fitsE v lo hi=0
 ·obtain ⟨n,rfl,hn,hl,hh,hlt⟩:=KV.fits0 hf
  have HF:=Lib.hid hf;have HL:=Lib.hid (And.intro hl (And.intro hh hlt))
  by_cases hlh:lo=hi
  ·subst hlh
   have hS:Hid (K.Has n lo lo lo):=.inl ⟨rfl,rfl⟩;clear h hf hl hh hlt
   go_enter Tryz.func117,Tryz.ntmps117
   go_wp2_with fail;refine (avY b n lo lo K T q _ HK.out.mem HK.out.ok.wf HK.out.ok.ord h1 h2).mono ?_;rintro e w1 ⟨rfl,hu⟩;rw [HF.out];have HU:=Lib.hid hu;clear hu;go_wp2_with fail;refine (aIq b lo n w1).mono ?_;rintro e w2 ⟨rfl,rfl⟩;go_wp2_with fail;refine (aEC b lo K T q _ (HK.out.upd HU.out (by simp)) h1 HL.out.1).mono ?_;rintro e w3 ⟨code,K',q',rfl,hc,hk,hu3,hs3⟩;have HE:=Lib.hid (And.intro (amB.of_keep HF.out hS.out hc) (And.intro hk (And.intro (HU.out.trans0 hu3) (Sub.of_old (w:=w) hs3))))
   have aDY:code=8\/code=0:=by rcases hc with hc | hc <;> simp [hc.1]
   clear hc hk hu3 hs3
   rcases aDY with rfl | rfl
   ·go_wp2_with fail
    go_ret2;exact ⟨_,_,_,_,_,rfl,HE.out⟩
   ·go_wp2_with fail
    go_ret2;exact ⟨_,_,_,_,_,rfl,HE.out⟩
  ·have HLH:=Lib.hid hlh
   clear h hf hl hh hlt
   go_enter Tryz.func117,Tryz.ntmps117
   go_wp2_with fail;refine (avY b n lo hi K T q _ HK.out.mem HK.out.ok.wf HK.out.ok.ord h1 h2).mono ?_;rintro e w1 ⟨rfl,hu⟩;rw [HF.out];have HU:=Lib.hid hu;clear hu;go_wp2_with fail;refine (aIr b n lo hi K T q _ (HK.out.mem.upd HU.out (by simp)) HK.out.ok.wf HK.out.ti hn h1 h2 hlh).mono ?_;rintro e w2 ⟨hu2,hr⟩;have HU2:=Lib.hid (HU.out.trans hu2);clear hu2
   rcases hr with ⟨r,rfl,ha⟩ | ⟨rfl,hno⟩
   ·have hS:Hid (K.Has n lo hi r):=.inr ⟨hlh,by simpa using ha⟩
    have amm:r<=4294967295:=by have:=ha.lt HK.out.ok.wf;omega
    have HA:=Lib.hid ha;clear ha;go_wp2_with fail;refine (aEC b r K T q _ (HK.out.upd HU2.out (by simp)) amm HA.out.tk).mono ?_;rintro e w3 ⟨code,K',q',rfl,hc,hk,hu3,hs3⟩;have HE:=Lib.hid (And.intro (amB.of_keep HF.out hS.out hc) (And.intro hk (And.intro (HU2.out.trans0 hu3) (Sub.of_old (w:=w) hs3))))
    have aDY:code=8\/code=0:=by rcases hc with hc | hc <;> simp [hc.1]
    clear hc hk hu3 hs3
    rcases aDY with rfl | rfl
    ·go_wp2_with fail
     go_ret2;exact ⟨_,_,_,_,_,rfl,HE.out⟩
    ·go_wp2_with fail
     go_ret2;exact ⟨_,_,_,_,_,rfl,HE.out⟩
   ·have HNO:=Lib.hid hno
    clear hno;go_wp2_with fail;refine (aBo b 1 K T q _ (HK.out.mem.upd HU2.out (by simp)) (by omega) (by omega)).mono ?_;rintro e w3 ⟨rfl,hu3⟩;have HU3:=Lib.hid (HU2.out.trans hu3);clear hu3
    cases hrm:K.room 1 with
    | false =>
     have HRM:Hid (K.A.used=K.A.places):=by
      have h4:=HK.out.ok.wf.ok.us;have h5:=HK.out.ok.wf.ok.lp
      simp [KV.room] at hrm
      show K.A.used=K.A.places
      omega
     clear hrm;go_wp2_with fail;go_ret2;exact ⟨0,9,K,T,q,rfl,.nodes HF.out HLH.out (by simpa using HNO.out) HRM.out,HK.out.upd HU3.out (by simp),HU3.out.mono (by simp),Sub.refl _ _⟩
    | true =>
     have HRM:Hid (K.A.used<K.A.places):=by
      simp [KV.room] at hrm
      show K.A.used<K.A.places
      omega
     clear hrm;have hlen:=HK.out.ti.len;have hD:T[n]?=some (T[n]'(by omega)):=List.getElem?_eq_getElem (by omega);generalize T[n]'(by omega)=D at hD;have HD:=Lib.hid hD;have HDN:=Lib.hid (HK.out.ti.not_has hD HNO.out HK.out.ok.wf hn h1 h2);clear hlen hD;go_wp2_with fail;refine (aBi b n lo hi K [] T D q _ (HK.out.mem.upd HU3.out (by simp)) HK.out.ok.wf HK.out.ti (by simp) hn HL.out.1 HL.out.2.1 h1 h2 HD.out HDN.out HRM.out).mono ?_;rintro e w4 ⟨r,K1,q1,rfl,tk,m4,u4,s4⟩
     have amm:r<=4294967295:=by have:=tk.fr.room;omega
     have hwf:=tk.wf HK.out.ok.wf HL.out.1 HL.out.2.1 ⟨by omega,by omega⟩
     have htr:K1.A.tk r=true:=by rw [tk.fr.tk];simp
     have hh0:K1.hold r<65535:=by rw [tk.hd,if_pos rfl];omega
     have HT:=Lib.hid (And.intro tk (And.intro m4 (And.intro (HU3.out.trans0 u4) (And.intro hwf (And.intro htr (And.intro hh0 s4))))));clear tk m4 u4 s4 hwf htr hh0;go_wp2_with fail;refine (aEA b r K1 _ q1 _ HT.out.2.1 HT.out.2.2.2.1 amm HT.out.2.2.2.2.1 HT.out.2.2.2.2.2.1).mono ?_;rintro e w5 ⟨rfl,q2,m5,u5,s5⟩
     have HE:Hid (amB K n lo hi r 0 (K1.keepK r)/\afF w5 b (K1.keepK r) (T.set n (D.put (nk n lo hi) (.lit (.int .u32 r)))) q2/\Upd (q.all b) w w5/\Sub (q.all b) w (q2.all b)):=by
      obtain ⟨tk,m4,u4,hwf,htr,hh0,s4⟩:=HT.out;have aOM:=HK.out.ok.made tk HL.out.1 HL.out.2.1 hn HLH.out (HL.out.2.2 HLH.out).1 (HL.out.2.2 HLH.out).2
      have s4':Sub (q.all b) w (q1.all b):=fun k hk=>by
       have:=HU3.out.size
       rcases s4 k hk with h | h
       ·exact .inl h
       ·right;omega
      exact ⟨.new HF.out HLH.out (by simpa using HNO.out) (by simpa using aOM.2),⟨m5,(HK.out.ti.took tk HD.out HDN.out).same (K1.keepK_A r) (K1.keepK_vars r),aOM.1⟩,
       u4.then u5 s4',fun k hk=>s4' k (s5 k hk)⟩
     clear m5 u5 s5;go_wp2_with fail;go_ret2;exact ⟨_,_,_,_,_,rfl,HE.out⟩
 ·have HE:Hid (amB K v lo hi 0 (K.fitsE v lo hi) K):=.bad hf
  have HF:Hid (∀ w1,Upd [] w w1->afF w1 b K T q):=fun w1 u=>h.upd u (by simp)
  have HC:=avY b v lo hi K T q w h.mem h.ok.wf h.ok.ord h1 h2;generalize K.fitsE v lo hi=c at hf HE HC;have HC:=Lib.hid HC
  have hf2:(c != 0)=true:=by simpa using hf
  clear h
  go_enter Tryz.func117,Tryz.ntmps117
  go_wp2_with fail;refine HC.out.mono ?_;rintro e w1 ⟨rfl,hu⟩;have HU:=Lib.hid hu;clear hu;go_wp2_with fail;go_ret2;exact ⟨0,c,K,T,q,rfl,HE.out,HF.out _ HU.out,HU.out.mono (by simp),Sub.refl _ _⟩
theorem aIb (b:Nat) (K:KV) (T:List DM) (q:abM) (w:World) (h:abv w b K T q) :
  Calls Tryz.prog 40 #[.pointer (some ⟨b,0,none⟩)] w fun e w'=>e=.returned (.int .i64 K.vars)/\w'=w:=by
 have c4:w.cell? ⟨b,4,none⟩=some (.int .i64 K.vars):=aac h.blk rfl;clear h
 go_enter Tryz.func40,Tryz.ntmps40
 go_wp2_with fail;go_ret;exact ⟨rfl,rfl⟩
theorem ayI (b:Nat) (K:KV) (T:List DM) (q:abM) (w:World) (h:abv w b K T q) :
  Calls Tryz.prog 31 #[.pointer (some ⟨b,0,none⟩)] w fun e w'=>e=.returned (.int .i64 ((K.A.used:Int)-2))/\w'=w:=by
 have c0:w.cell? ⟨b,0,none⟩=some (.pointer (some ⟨q.a,0,none⟩)):=aac h.blk rfl;have h1:=h.ar.ok.us;have h2:=h.ar.ok.lp;have h3:=h.ar.ok.pm
 have hu:K.A.used<=1048576:=by omega
 have e1:IntKind.i64.wrap ((K.A.used:Int)-2)=(K.A.used:Int)-2:=IntWalk.i64_in _ (by omega);have HA:=Lib.hid h.ar;clear h h1 h2 h3
 go_enter Tryz.func31,Tryz.ntmps31
 go_wp2_with fail;refine (aAV q.a q.FA K.A w HA.out).mono ?_;rintro e w1 ⟨rfl,rfl⟩;go_wp2_with fail;go_ret;exact ⟨rfl,rfl⟩
theorem arx (b r:Nat) (K:KV) (T:List DM) (q:abM) (w:World) (h:abv w b K T q) (_hl:K.holds.length<=1048576) (hm:K.hold r<=65535) (hr:r<=4294967295) :
  Calls Tryz.prog 74 #[.pointer (some ⟨b,0,none⟩),.int .u32 r] w fun e w'=>e=.returned (.int .i64 (K.hold r))/\w'=w:=by
 have e64:wrap64 (K.hold r:Int)=(K.hold r:Int):=by unfold wrap64;omega
 obtain ⟨fa,fc,hfv,_⟩:=abI h.hs
 have aCS:q.hv=.slice fa K.holds.length fc:=by rw [hfv]
 have c3:w.cell? ⟨b,3,none⟩=some (.slice fa K.holds.length fc):=by rw [<- aCS];exact aac h.blk rfl
 by_cases hlt:r<K.holds.length
 ·obtain ⟨g,c,hq,c3',cu,_,_⟩:=h.holdCell hlt
  have e:fa=some ⟨g,0,none⟩/\fc=c:=by rw [aCS] at hq;simpa using hq
  obtain ⟨rfl,rfl⟩:=e
  have hd:decide ((K.holds.length:Int)<=(r:Int))=false:=by simp;omega
  have hd2:(r:Int)<(K.holds.length:Int):=by omega
  clear h hfv aCS hq c3'
  go_enter Tryz.func74,Tryz.ntmps74
  go_wp2_with fail;go_ret;exact ⟨rfl,rfl⟩
 ·have hz:K.hold r=0:=by
   unfold KV.hold
   rw [List.getD_eq_getElem?_getD,List.getElem?_eq_none (by omega)];rfl
  have hd:decide ((K.holds.length:Int)<=(r:Int))=true:=by simp;omega
  have hd2:(K.holds.length:Int)<=(r:Int):=by omega
  have HZ:=Lib.hid hz;clear h hfv aCS hz hlt
  go_enter Tryz.func74,Tryz.ntmps74
  go_wp2_with fail;go_ret;exact ⟨by rw [HZ.out];rfl,rfl⟩
theorem aON {w1:World} {B:Nat} {x y z:Value} {t:TypeId} (h:w1.heap[B]?=some (.cells #[x,y,z] t (0,0))) (x' y' z':Value) :
  (((w1.setCell ⟨B,0,none⟩ x').setCell ⟨B,1,none⟩ y').setCell ⟨B,2,none⟩ z').cell? ⟨B,0,none⟩=some x' /\
  (((w1.setCell ⟨B,0,none⟩ x').setCell ⟨B,1,none⟩ y').setCell ⟨B,2,none⟩ z').cell? ⟨B,1,none⟩=some y' /\
  (((w1.setCell ⟨B,0,none⟩ x').setCell ⟨B,1,none⟩ y').setCell ⟨B,2,none⟩ z').cell? ⟨B,2,none⟩=some z':=by
 have e:=abV (j:=2) (abV (j:=1) (abV (j:=0) h x') y') z';exact ⟨aac e rfl,aac e rfl,aac e rfl⟩
theorem aRk (b r:Nat) (K:KV) (T:List DM) (q:abM) (w:World) (h:abv w b K T q) (hr:r<=4294967295) (ht:K.A.tk r=false) :
  Calls Tryz.prog 67 #[.pointer (some ⟨b,0,none⟩),.int .u32 r] w fun e w'=>e=.returned (.tuple #[.agg #[.int .i64 0,.int .u32 0,.int .u32 0],.int .i64 3])/\Upd [] w w':=by
 have HM:=Lib.hid h;have HT:=Lib.hid ht;have hb:=aa4 h.blk;clear h ht
 go_enter Tryz.func67,Tryz.ntmps67
 go_wp2_with fail;refine (af1 b r K T q _ (HM.out.upd ((Upd.refl [] w).alloc _) (by simp)) hr).mono ?_;rintro e w1 ⟨rfl,hu⟩;rw [HT.out];have hbx:w1.heap[w.heap.size]?=some (.cells #[.int .i64 0,.int .u32 0,.int .u32 0] 142 (0,0)):=(hu.block w.heap.size (by simp) (by simp)).trans (heap_alloc_new w _);have b0:w1.cell? ⟨w.heap.size,0,none⟩=some (.int .i64 0):=aac hbx rfl;have b1:w1.cell? ⟨w.heap.size,1,none⟩=some (.int .u32 0):=aac hbx rfl;have b2:w1.cell? ⟨w.heap.size,2,none⟩=some (.int .u32 0):=aac hbx rfl;have f0:=abq 0 hbx;have f1:=abq 1 hbx;have f2:=abq 2 hbx;have hbw:=aa4 hbx;have HX:=Lib.hid hbx;have HU:Hid (Upd [] w w1):=((Upd.refl [] w).alloc _).trans (hu.mono (by simp));clear hu hbx;go_wp2_with fail;obtain ⟨r0,r1,r2⟩:=aON HX.out (.int .i64 0) (.int .u32 0) (.int .u32 0);refine bodyPost_ret (v:=.tuple #[.agg #[.int .i64 0,.int .u32 0,.int .u32 0],.int .i64 3]) (by simp [results,Tryz.results67,go_sem,r0,r1,r2]) rfl ⟨rfl,?_⟩;exact ((HU.out.setCell (.inr (Nat.le_refl _)) _).setCell (.inr (Nat.le_refl _)) _).setCell (.inr (Nat.le_refl _)) _
theorem amF (b r:Nat) (K:KV) (T:List DM) (q:abM) (p:abu) (w:World) (h:abv w b K T q) (hr:r<=4294967295) (hp:K.A.list[r]?=some p) (hpt:p.taken=true) :
  Calls Tryz.prog 67 #[.pointer (some ⟨b,0,none⟩),.int .u32 r] w fun e w'=>e=.returned (.tuple #[.agg #[.int .i64 p.var,.int .u32 p.lo,.int .u32 p.hi],.int .i64 0])/\Upd [] w w':=by
 have HM:=Lib.hid h;have HT:Hid (K.A.tk r=true):=aaU.tk_iff.2 ⟨p,hp,hpt⟩;have HP:=Lib.hid (And.intro hp hpt);have hb:=aa4 h.blk;clear h hp hpt
 go_enter Tryz.func67,Tryz.ntmps67
 go_wp2_with fail;refine (af1 b r K T q _ (HM.out.upd ((Upd.refl [] w).alloc _) (by simp)) hr).mono ?_;rintro e w1 ⟨rfl,hu⟩;rw [HT.out];have HU1:Hid (Upd [] w w1):=((Upd.refl [] w).alloc _).trans (hu.mono (by simp));have aTV:w1.heap[w.heap.size]?=some (.cells #[.int .i64 0,.int .u32 0,.int .u32 0] 142 (0,0)):=(hu.block w.heap.size (by simp) (by simp)).trans (heap_alloc_new w _);have HX1:=Lib.hid aTV;clear hu aTV;go_wp2_with fail;refine (aiS b r K T q p _ (HM.out.upd HU1.out (by simp)) hr HP.out.1 HP.out.2).mono ?_;rintro e w2 ⟨rfl,hu⟩;have hbx:w2.heap[w.heap.size]?=some (.cells #[.int .i64 0,.int .u32 0,.int .u32 0] 142 (0,0)):=(hu.block w.heap.size (aa4 HX1.out) (by simp)).trans HX1.out;have b0:w2.cell? ⟨w.heap.size,0,none⟩=some (.int .i64 0):=aac hbx rfl;have b1:w2.cell? ⟨w.heap.size,1,none⟩=some (.int .u32 0):=aac hbx rfl;have b2:w2.cell? ⟨w.heap.size,2,none⟩=some (.int .u32 0):=aac hbx rfl;have f0:=abq 0 hbx;have f1:=abq 1 hbx;have f2:=abq 2 hbx;have hbw:=aa4 hbx;have HX:=Lib.hid hbx;have HU:=Lib.hid (HU1.out.trans hu);clear hu hbx;go_wp2_with fail;obtain ⟨r0,r1,r2⟩:=aON HX.out (.int .i64 p.var) (.int .u32 p.lo) (.int .u32 p.hi);refine bodyPost_ret (v:=.tuple #[.agg #[.int .i64 p.var,.int .u32 p.lo,.int .u32 p.hi],.int .i64 0]) (by simp [results,Tryz.results67,go_sem,r0,r1,r2]) rfl ⟨rfl,?_⟩;exact ((HU.out.setCell (.inr (Nat.le_refl _)) _).setCell (.inr (Nat.le_refl _)) _).setCell (.inr (Nat.le_refl _)) _
def KV.endTrail (K:KV):KV:={ K with trail:=[] }
theorem KV.Ok.dropped {K K1:KV} {r:Nat} (h:K.Ok) (hh:0<K.hold r) (hw:K1.Wf []) (hle:K1.Le (K.dropH r)) (hp:K1.Pos):K1.endTrail.Ok/\K.Dropped r K1.endTrail:=by
 have h2:=(h.wf.ht r hh).1;have e0:K1.Ext K:=⟨hle.nd,hle.pl.symm,hle.vr.symm,hle.od.symm,hle.lv.symm⟩;have ho:=e0.ord_down hw h.ord;refine ⟨⟨⟨hw.ok,hw.len,hw.ul,hw.tu,hw.ht,hw.hm,hw.eq,hw.pt,hw.cl,hw.vr,hw.vs⟩,hp,ho.same rfl rfl rfl rfl,by simp [KV.endTrail]⟩,⟨e0.nd,e0.pl,e0.vr,e0.od,e0.lv⟩,?_,rfl,hle.us⟩
 intro x
 have e1:K1.endTrail.hold x=(K.dropH r).hold x:=by show K1.holds.getD x 0=(K.dropH r).holds.getD x 0;rw [hle.hd]
 rw [e1,h.wf.dropH_hold hh]
 by_cases e:x=r
 ·subst e;simp [h2]
 ·simp [e]
theorem KV.dropH_pos {K:KV} (h:K.Pos) (r:Nat):(K.dropH r).Pos:=h
theorem abv.endTrail {w:World} {b:Nat} {K:KV} {T:List DM} {q:abM} (h:abv w b K T q) :
  ∃ q',abv (w.setCell ⟨b,7,none⟩ (.slice none 0 0)) b K.endTrail T q'/\∀ k,k∈q'.all b->k∈q.all b:=by
 refine ⟨{ q with tv:=.slice none 0 0 },h.noTrail,?_⟩
 intro k hk
 simp only [abM.mem,Value.ownBlock] at hk ⊢
 simp at hk
 rcases hk with hk | hk | hk | hk | hk | hk | hk <;> simp [hk]
theorem aHk (b r:Nat) (K:KV) (T:List DM) (q:abM) (w:World) (h:afF w b K T q) (hr:r<=4294967295) :
  Calls Tryz.prog 32 #[.pointer (some ⟨b,0,none⟩),.int .u32 r] w fun e w' =>
   ∃ (code:Int) (K':KV) (T':List DM) (q':abM),e=.returned (.int .i64 code)/\((code=3/\2<=r/\K.hold r=0/\K'=K)\/(code=0/\(2<=r->0<K.hold r)/\K.Dropped r K'))/\afF w' b K' T' q'/\Upd (q.all b) w w'/\Sub (q.all b) w (q'.all b):=by
 have HK:=Lib.hid h;have hhl:=h.ok.wf.ok.lp;have hhm:=h.ok.wf.ok.pm;have hul:=h.ok.wf.ul;have hlen:=h.ok.wf.len;have hm:=h.ok.wf.hm r
 have hsz:K.holds.length<=1048576:=by omega
 by_cases h2:2<=r
 ·have hd:(1:Int)<(r:Int):=by omega
  by_cases h0:K.hold r=0
  ·have H0:=Lib.hid h0
   clear h
   go_enter Tryz.func32,Tryz.ntmps32
   go_wp2_with fail;refine (arx b r K T q w HK.out.mem hsz hm hr).mono ?_;rintro e w1 ⟨rfl,rfl⟩;rw [H0.out];go_wp2_with fail;go_ret;exact ⟨3,K,T,q,rfl,.inl ⟨rfl,h2,H0.out,rfl⟩,HK.out,Upd.refl _ _,Sub.refl _ _⟩
  ·obtain ⟨ht2,ht⟩:=h.ok.wf.ht r (by omega)
   have hl:=h.ok.wf.tk_lt h2 ht;obtain ⟨gh,ch,hqh,c3,ch1,fh1,hgh⟩:=h.mem.holdCell hl.2.1;have hb:=h.mem.blk;have fb:=abq 7 hb;have c7:w.cell? ⟨b,7,none⟩=some q.tv:=aac hb rfl
   have nbh:b≠gh:=by
    rintro rfl;have e1:=h.mem.oh b (by rw [hqh];rfl);have e2:=h.mem.ob;omega
   have hrl:(r:Int)<(K.holds.length:Int):=by omega
   have aTu:¬ ((K.hold r:Int)=0):=by omega
   have aQs:decide ((K.hold r:Int)=0)=false:=by simp;omega
   have H0:=Lib.hid (show 0<K.hold r by omega);have HQ:=Lib.hid (And.intro hqh hgh);have hbm:b∈q.all b:=abM.mem.2 (.inl rfl)
   have e32:((K.hold r-1:Nat):Int)=(K.hold r:Int)-1:=by omega
   have HM1:=h.mem.setHold (n:=K.hold r-1) hqh hl.2.1;rw [e32] at HM1;have HM1:Hid (abv (w.setCell ⟨gh,r,none⟩ (.int .i32 ((K.hold r:Int)-1))) b (K.dropH r) T q):=HM1
   by_cases h1:K.hold r=1
   ·have H1:=Lib.hid h1
    have hw1:=h.ok.wf.dropH (r:=r) (by omega);rw [if_pos h1] at hw1;have HW1:=Lib.hid hw1;rw [h1] at ch1 aTu aQs HM1;clear h hb hqh hgh hw1 h0 h1 e32
    go_enter Tryz.func32,Tryz.ntmps32
    go_wp2_with fail;refine (arx b r K T q w HK.out.mem hsz hm hr).mono ?_;rintro e w1 ⟨rfl,rfl⟩;rw [H1.out];go_wp2_with fail;refine (auq b r (K.dropH r) [] T q _ HM1.out HW1.out (HK.out.ti.same rfl rfl) (by simp) hr).mono ?_;rintro e w2 ⟨rfl,K1,T1,q1,hR⟩;obtain ⟨q2,m2,s2⟩:=hR.mem.endTrail;have hb2:=hR.mem.blk;have fb2:=abq 7 hb2;have c72:w2.cell? ⟨b,7,none⟩=some q1.tv:=aac hb2 rfl
    have HE:Hid (K.Dropped r K1.endTrail/\afF (w2.setCell ⟨b,7,none⟩ (.slice none 0 0)) b K1.endTrail T1 q2/\Upd (q.all b) w1 (w2.setCell ⟨b,7,none⟩ (.slice none 0 0))/\Sub (q.all b) w1 (q2.all b)):=by
     have hok:=HK.out.ok.dropped H0.out (by simpa using hR.wf) hR.le (hR.pos (KV.dropH_pos HK.out.ok.pos r))
     have hs:Sub (q.all b) w1 (q1.all b):=by
      intro k hk
      rcases hR.sub k hk with h | h
      ·exact .inl h
      ·right;simpa [World.setCell] using h
     refine ⟨hok.2,⟨m2,hR.ti.same rfl rfl,hok.1⟩,?_,fun k hk=>hs k (s2 k hk)⟩;have u1:Upd (q.all b) w1 (w1.setCell ⟨gh,r,none⟩ (.int .i32 (1-1))):=(Upd.refl _ _).setCell (p:=⟨gh,r,none⟩) (.inl HQ.out.2) _;exact (u1.trans hR.up).setCell (p:=⟨b,7,none⟩) (.inl hbm) _
    clear hR m2 s2 hb2;go_wp2_with fail;go_ret;obtain ⟨a1,a2,a3,a4⟩:=HE.out;exact ⟨0,_,_,_,rfl,.inr ⟨rfl,fun _=>H0.out,a1⟩,a2,a3,a4⟩
   ·have hw1:=h.ok.wf.dropH (r:=r) (by omega)
    rw [if_neg h1] at hw1;have HW1:=Lib.hid hw1
    have aHR:¬ ((K.hold r:Int)-1=0):=by omega
    clear h hb hqh hgh hw1 h0 e32
    go_enter Tryz.func32,Tryz.ntmps32
    go_wp2_with fail;refine (arx b r K T q w HK.out.mem hsz hm hr).mono ?_;rintro e w1 ⟨rfl,rfl⟩;go_wp2_with fail;go_ret;obtain ⟨q2,m2,s2⟩:=HM1.out.endTrail;have hok:=HK.out.ok.dropped H0.out HW1.out (.refl _) (KV.dropH_pos HK.out.ok.pos r);exact ⟨0,_,T,q2,rfl,.inr ⟨rfl,fun _=>H0.out,hok.2⟩,⟨m2,HK.out.ti.same rfl rfl,hok.1⟩,((Upd.refl _ _).setCell (p:=⟨gh,r,none⟩) (.inl HQ.out.2) _).setCell (p:=⟨b,7,none⟩) (.inl hbm) _,Sub.of_old s2⟩
 ·have hd:decide ((1:Int)<(r:Int))=false:=by simp;omega
  have hd2:decide (1<r)=false:=by simp;omega
  have hb:=h.mem.blk;have fb:=abq 7 hb;have c7:w.cell? ⟨b,7,none⟩=some q.tv:=aac hb rfl;have hbm:b∈q.all b:=abM.mem.2 (.inl rfl);clear h hb
  go_enter Tryz.func32,Tryz.ntmps32
  go_wp2_with fail;go_ret;obtain ⟨q2,m2,s2⟩:=HK.out.mem.endTrail;have hok:=HK.out.ok;refine ⟨0,K.endTrail,T,q2,rfl,.inr ⟨rfl,fun h=>absurd h h2,⟨⟨fun _ _ h _=>h,rfl,rfl,rfl,rfl⟩,fun x=>?_,rfl,Nat.le_refl _⟩⟩,⟨m2,HK.out.ti.same rfl rfl,⟨⟨hok.wf.ok,hok.wf.len,hok.wf.ul,hok.wf.tu,hok.wf.ht,hok.wf.hm,hok.wf.eq,hok.wf.pt,hok.wf.cl,hok.wf.vr,hok.wf.vs⟩,hok.pos,hok.ord.same rfl rfl rfl rfl,by simp [KV.endTrail]⟩⟩,(Upd.refl _ _).setCell (p:=⟨b,7,none⟩) (.inl hbm) _,Sub.of_old s2⟩
  rw [if_neg (by intro e;exact h2 e.2)];rfl
end Go.Proofs.YtdackeldhdchaaaGreat
