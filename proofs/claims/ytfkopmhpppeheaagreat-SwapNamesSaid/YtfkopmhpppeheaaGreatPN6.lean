import Derived.Test.YtfkopmhpppeheaaGreatPN5
import Derived.Deep.QuietTactic
set_option maxRecDepth 100000
set_option maxHeartbeats 1600000
namespace Go.Proofs.YtfkopmhpppeheaaGreat
open Go.RowKit Go.Maps Go.ChangeMaps Go.WideShapes
structure bV (w:World) (b:Nat) (K:KV) (T:List DM) (q:aA):Prop where
 mem:aF w b K T q
 ti:dW T K []
 ok:K.Ok
def aZ (w:World) (b:Nat) (K:KV) (F:List Nat):Prop:=∃ T q,bV w b K T q/\F=q.all b
theorem bV.upd {w w':World} {b:Nat} {K:KV} {T:List DM} {q:aA} {S:List Nat} (h:bV w b K T q) (u:af S w w') (hd:∀ k,k∈q.all b->k∉S):bV w' b K T q:=⟨h.mem.upd u hd,h.ti,h.ok⟩
theorem aZ.upd {w w':World} {b:Nat} {K:KV} {F S:List Nat} (h:aZ w b K F) (u:af S w w') (hd:∀ k,k∈F->k∉S):aZ w' b K F:=by
 obtain ⟨T,q,h,rfl⟩:=h;exact ⟨T,q,h.upd u hd,rfl⟩
theorem aZ.ok {w:World} {b:Nat} {K:KV} {F:List Nat} (h:aZ w b K F):K.Ok:=by obtain ⟨T,q,h,rfl⟩:=h;exact h.ok
theorem aZ.lt {w:World} {b:Nat} {K:KV} {F:List Nat} (h:aZ w b K F):∀ k,k∈F->k<w.heap.size:=by obtain ⟨T,q,h,rfl⟩:=h;exact h.mem.lt
theorem af.vV {S:List Nat} {w w1 w2:World} (h:af [] w w1) (k:af S w1 w2):af S w w2:=(h.mono (by simp)).trans k
theorem KV.Wf.iZ {K:KV} {P:List Nat} (h:K.Wf P) {r:Nat} (h2:2<=r) (ht:K.A.tk r=true):r<K.uses.length/\r<K.holds.length/\K.uses.length<=1048576/\K.holds.length<=1048576:=by
 have h1:=h.tu r h2 ht;have h3:=h.len;have h4:=h.ul;have h5:=h.ok.lp;have h6:=h.ok.pm;omega
theorem dW.uni {T:List DM} {K:KV} {P:List Nat} (h:dW T K []) (hw:K.Wf P):K.Uni :=
 fun r s p c h2 h3 hp hc aH lI e1 e2 e3=>h.uniq hw h2 h3 hp hc aH lI (by simp) (by simp) (by simp [kG,e1,e2,e3])
theorem aZ.uni {w:World} {b:Nat} {K:KV} {F:List Nat} (h:aZ w b K F):K.Uni:=by obtain ⟨T,q,h,rfl⟩:=h;exact h.ti.uni h.ok.wf
theorem aF.keep0 {w:World} {b r:Nat} {K:KV} {T:List DM} {q:aA} (h:aF w b K T q) (hr:r<2) :
  ∃ q',aF (w.setCell ⟨b,7,none⟩ (.slice none 0 0)) b (K.bW r) T q'/\af (q.all b) w (w.setCell ⟨b,7,none⟩ (.slice none 0 0))/\∀ k,k∈q'.all b->k∈q.all b:=by
 have yO:b∈q.all b:=aA.mem.2 (.inl rfl)
 have e:K.bW r={ K with trail:=[] }:=by unfold KV.bW;rw [if_neg (by omega)]
 refine ⟨{ q with tv:=.slice none 0 0 },?_,(af.refl _ _).setCell (p:=⟨b,7,none⟩) (.inl yO) _,?_⟩
 ·rw [e];exact h.Bh
 ·intro k hk
  simp only [aA.mem,Value.ownBlock] at hk ⊢
  simp at hk
  rcases hk with hk | hk | hk | hk | hk | hk | hk <;> simp [hk]
theorem aF.ahL {w:World} {b r g n c:Nat} {K:KV} {T:List DM} {q:aA} (h:aF w b K T q) (hw:K.Wf []) (hr:2<=r) (ht:K.A.tk r=true) (hq:q.hv=.slice (some ⟨g,0,none⟩) n c) (h0:0<K.hold r) :
  ∃ q',aF ((w.setCell ⟨g,r,none⟩ (.int .i32 ((K.hold r+1:Nat):Int))).setCell ⟨b,7,none⟩ (.slice none 0 0)) b (K.bW r) T q'/\af (q.all b) w ((w.setCell ⟨g,r,none⟩ (.int .i32 ((K.hold r+1:Nat):Int))).setCell ⟨b,7,none⟩ (.slice none 0 0))/\∀ k,k∈q'.all b->k∈q.all b:=by
 have yO:b∈q.all b:=aA.mem.2 (.inl rfl)
 have e:K.bW r={ ({ K with holds:=K.holds.set r (K.hold r+1) }:KV) with trail:=[] }:=by unfold KV.bW;rw [if_pos hr,if_neg (by omega)]
 have hg:g∈q.all b:=aA.mem.2 (.inr (.inr (.inr (.inr (.inl (by rw [hq];rfl))))));refine ⟨{ q with tv:=.slice none 0 0 },?_,((af.refl _ _).setCell (p:=⟨g,r,none⟩) (.inl hg) _).setCell (p:=⟨b,7,none⟩) (.inl yO) _,?_⟩
 ·rw [e];exact (h.Bg hq (hw.iZ hr ht).2.1).Bh
 ·intro k hk
  simp only [aA.mem,Value.ownBlock] at hk ⊢
  simp at hk
  rcases hk with hk | hk | hk | hk | hk | hk | hk <;> simp [hk]
theorem aF.ahM {w:World} {b r g n c gu nu cu:Nat} {K:KV} {T:List DM} {q:aA} (h:aF w b K T q) (hw:K.Wf []) (hr:2<=r) (ht:K.A.tk r=true) (hq:q.hv=.slice (some ⟨g,0,none⟩) n c) (PU:q.uv=.slice (some ⟨gu,0,none⟩) nu cu) (h0:K.hold r=0) :
  ∃ q',aF (((w.setCell ⟨g,r,none⟩ (.int .i32 1)).setCell ⟨gu,r,none⟩ (.int .i32 ((K.use r+1:Nat):Int))).setCell ⟨b,7,none⟩ (.slice none 0 0)) b (K.bW r) T q'/\af (q.all b) w (((w.setCell ⟨g,r,none⟩ (.int .i32 1)).setCell ⟨gu,r,none⟩ (.int .i32 ((K.use r+1:Nat):Int))).setCell ⟨b,7,none⟩ (.slice none 0 0))/\∀ k,k∈q'.all b->k∈q.all b:=by
 have yO:b∈q.all b:=aA.mem.2 (.inl rfl)
 have e:K.bW r={ ({ ({ K with holds:=K.holds.set r 1 }:KV) with uses:=K.uses.set r (K.use r+1) }) with trail:=[] }:=by unfold KV.bW;rw [if_pos hr,if_pos h0,h0]
 have hg:g∈q.all b:=aA.mem.2 (.inr (.inr (.inr (.inr (.inl (by rw [hq];rfl))))));have Lp:gu∈q.all b:=aA.mem.2 (.inr (.inr (.inr (.inl (by rw [PU];rfl)))));refine ⟨{ q with tv:=.slice none 0 0 },?_,(((af.refl _ _).setCell (p:=⟨g,r,none⟩) (.inl hg) _).setCell (p:=⟨gu,r,none⟩) (.inl Lp) _).setCell (p:=⟨b,7,none⟩) (.inl yO) _,?_⟩
 ·rw [e];exact ((h.Bg (n:=1) hq (hw.iZ hr ht).2.1).zg PU (hw.iZ hr ht).1).Bh
 ·intro k hk
  simp only [aA.mem,Value.ownBlock] at hk ⊢
  simp at hk
  rcases hk with hk | hk | hk | hk | hk | hk | hk <;> simp [hk]
theorem RY (b r:Nat) (K:KV) (T:List DM) (q:aA) (w:World) (h:bV w b K T q) (hr:r<=4294967295) (ht:K.A.tk r=true) (hf:K.hold r=65535) :
  Calls Tryz.prog 101 #[.pointer (some ⟨b,0,none⟩),.int .u32 r] w fun e w'=>e=.returned (.int .i64 8)/\af [] w w':=by
 have h2:=(h.ok.wf.ht r (by omega)).1;have hl:=h.ok.wf.iZ h2 ht
 have hd:(1:Int)<(r:Int):=by omega
 have HT:=Lib.hid ht;have HM:=Lib.hid h.mem;have HF:=Lib.hid hf;clear h ht hf
 go_enter Tryz.func101,Tryz.ntmps101
 go_wp2_with fail;refine (fK b r K T q _ HM.out hr).mono ?_;rintro e w1 ⟨rfl,hu⟩;rw [HT.out];have m1:=HM.out.upd hu (by simp);obtain ⟨gh,ch,Ec,c3,ch1,fh1,PV⟩:=m1.qo hl.2.1;rw [HF.out] at ch1
 have rF:(r:Int)<(K.holds.length:Int):=by omega
 have HU:=Lib.hid hu;clear hu m1 Ec PV;go_wp2_with fail;go_ret;exact ⟨rfl,HU.out⟩
theorem KY (b r:Nat) (K:KV) (T:List DM) (q:aA) (w:World) (h:aF w b K T q) (hw:K.Wf []) (hr:r<=4294967295) (ht:K.A.tk r=true) (hf:K.hold r<65535) :
  Calls Tryz.prog 101 #[.pointer (some ⟨b,0,none⟩),.int .u32 r] w fun e w'=>e=.returned (.int .i64 0)/\∃ q',aF w' b (K.bW r) T q'/\af (q.all b) w w'/\∀ k,k∈q'.all b->k∈q.all b:=by
 have HT:=Lib.hid ht;have HM:=Lib.hid h;have HW:=Lib.hid hw
 by_cases h2:2<=r
 ·have hl:=hw.iZ h2 ht
  have hd:(1:Int)<(r:Int):=by omega
  have XK:K.use r+1<=2147483647:=by have:=hw.Ih h2 ht;simp at this;omega
  clear h hw ht
  by_cases h0:K.hold r=0
  ·have H0:=Lib.hid h0
   go_enter Tryz.func101,Tryz.ntmps101
   go_wp2_with fail;refine (fK b r K T q _ HM.out hr).mono ?_;rintro e w1 ⟨rfl,hu⟩;rw [HT.out];have m1:=HM.out.upd hu (by simp);obtain ⟨gh,ch,Ec,c3,ch1,fh1,PV⟩:=m1.qo hl.2.1;obtain ⟨gu,cu,PU,c2,cu1,fu1,ZC⟩:=m1.Bi hl.1;rw [H0.out] at ch1;have hb:=m1.blk;have fb:=ax 7 hb;have c7:w1.cell? ⟨b,7,none⟩=some q.tv:=ae hb rfl
   have ngh:gu≠gh:=by
    rintro rfl;have e1:=m1.ou gu (by rw [PU];rfl);have e2:=m1.oh gu (by rw [Ec];rfl);omega
   have nbu:b≠gu:=by
    rintro rfl;have e1:=m1.ou b (by rw [PU];rfl);have e2:=m1.ob;omega
   have nbh:b≠gh:=by
    rintro rfl;have e1:=m1.oh b (by rw [Ec];rfl);have e2:=m1.ob;omega
   have rF:(r:Int)<(K.holds.length:Int):=by omega
   have abN:(r:Int)<(K.uses.length:Int):=by omega
   have HU:=Lib.hid hu;have HE:=Lib.hid (m1.ahM HW.out h2 HT.out Ec PU h0);clear hu m1 Ec PV PU ZC hb;go_wp2_with fail;go_ret;obtain ⟨q',a1,a2,a3⟩:=HE.out;exact ⟨rfl,q',by simpa using a1,by simpa using HU.out.vV a2,a3⟩
  ·go_enter Tryz.func101,Tryz.ntmps101
   go_wp2_with fail;refine (fK b r K T q _ HM.out hr).mono ?_;rintro e w1 ⟨rfl,hu⟩;rw [HT.out];have m1:=HM.out.upd hu (by simp);obtain ⟨gh,ch,Ec,c3,ch1,fh1,PV⟩:=m1.qo hl.2.1;have hb:=m1.blk;have fb:=ax 7 hb;have c7:w1.cell? ⟨b,7,none⟩=some q.tv:=ae hb rfl
   have nbh:b≠gh:=by
    rintro rfl;have e1:=m1.oh b (by rw [Ec];rfl);have e2:=m1.ob;omega
   have rF:(r:Int)<(K.holds.length:Int):=by omega
   have AO:decide ((K.hold r:Int)=65535)=false:=by simp;omega
   have hn2:decide ((K.hold r:Int)+1=1)=false:=by simp;omega
   have hn3:¬ ((K.hold r:Int)=65535):=by omega
   have hn4:¬ ((K.hold r:Int)+1=1):=by omega
   have HU:=Lib.hid hu;have HE:=Lib.hid (m1.ahL HW.out h2 HT.out Ec (by omega));clear hu m1 Ec PV hb;go_wp2_with fail;go_ret;obtain ⟨q',a1,a2,a3⟩:=HE.out;exact ⟨rfl,q',by simpa using a1,by simpa using HU.out.vV a2,a3⟩
 ·have hd:decide ((1:Int)<(r:Int))=false:=by simp;omega
  have wP:decide (1<r)=false:=by simp;omega
  have rQ:r<2:=by omega
  clear h hw ht h2
  go_enter Tryz.func101,Tryz.ntmps101
  go_wp2_with fail;refine (fK b r K T q _ HM.out hr).mono ?_;rintro e w1 ⟨rfl,hu⟩;rw [HT.out];have m1:=HM.out.upd hu (by simp);have hb:=m1.blk;have fb:=ax 7 hb;have c7:w1.cell? ⟨b,7,none⟩=some q.tv:=ae hb rfl;have HU:=Lib.hid hu;have HE:=Lib.hid (m1.keep0 rQ);clear hu m1 hb;go_wp2_with fail;go_ret;obtain ⟨q',a1,a2,a3⟩:=HE.out;exact ⟨rfl,q',a1,HU.out.vV a2,a3⟩
theorem yt (b r:Nat) (K:KV) (T:List DM) (q:aA) (w:World) (h:bV w b K T q) (hr:r<=4294967295) (ht:K.A.tk r=true) :
  Calls Tryz.prog 101 #[.pointer (some ⟨b,0,none⟩),.int .u32 r] w fun e w'=>∃ (code:Int) (K':KV) (q':aA),e=.returned (.int .i64 code)/\((code=8/\K.hold r=65535/\K'=K)\/(code=0/\K.hold r<65535/\K'=K.bW r)) /\
   bV w' b K' T q'/\af (q.all b) w w'/\∀ k,k∈q'.all b->k∈q.all b:=by
 have hm:=h.ok.wf.hm r
 by_cases hf:K.hold r=65535
 ·refine (RY b r K T q w h hr ht hf).mono ?_
  rintro e w1 ⟨rfl,hu⟩;exact ⟨8,K,q,rfl,.inl ⟨rfl,hf,rfl⟩,h.upd hu (by simp),hu.mono (by simp),fun k hk=>hk⟩
 ·refine (KY b r K T q w h.mem h.ok.wf hr ht (by omega)).mono ?_
  rintro e w1 ⟨rfl,q',a1,a2,a3⟩;have hk:=h.ok.kept ht (by omega);exact ⟨0,K.bW r,q',rfl,.inr ⟨rfl,by omega,rfl⟩,⟨a1,h.ti.same (K.dO r) (K.iO r),hk.1⟩,a2,a3⟩
theorem aF.PX {w:World} {b v:Nat} {K:KV} {T:List DM} {q:aA} (h:aF w b K T q) (hv:v<K.level.length) :
  ∃ g c,q.lv=.slice (some ⟨g,0,none⟩) K.level.length c/\w.cell? ⟨b,6,none⟩=some (.slice (some ⟨g,0,none⟩) K.level.length c)/\w.cell? ⟨g,v,none⟩=some (.int .i64 (K.lev v))/\w.frozen? ⟨g,v,none⟩=false/\g∈q.all b:=by
 have hu:=h.ls;obtain ⟨g,c,hq,_,_⟩:=hu.form (by omega);refine ⟨g,c,hq,by rw [<- hq];exact ae h.blk rfl,?_,?_,aA.mem.2 (.inr (.inr (.inr (.inr (.inr (.inr (.inl (by rw [hq];rfl))))))))⟩
 ·rw [hq] at hu
  refine au hu ?_
  simp [aQ,KV.lev,hv]
 ·rw [hq] at hu;exact aS hu v
def KV.isVar (K:KV) (v:Int):Bool:=decide (0<=v/\v<K.vars)
theorem iT (b:Nat) (v:Int) (K:KV) (T:List DM) (q:aA) (w:World) (h:aF w b K T q) :
  Calls Tryz.prog 110 #[.pointer (some ⟨b,0,none⟩),.int .i64 v] w fun e w'=>e=.returned (.bool (K.isVar v))/\w'=w:=by
 have c4:w.cell? ⟨b,4,none⟩=some (.int .i64 K.vars):=ae h.blk rfl;have HV:Hid (K.isVar v=decide (0<=v/\v<K.vars)):=rfl;clear h
 by_cases h0:0<=v
 ·go_enter Tryz.func110,Tryz.ntmps110
  go_wp2_with fail;go_ret;exact ⟨by rw [HV.out];simp [h0],rfl⟩
 ·have hd:decide (0<=v)=false:=by simp;omega
  have HN:=Lib.hid h0;clear h0
  go_enter Tryz.func110,Tryz.ntmps110
  go_wp2_with fail;go_ret;exact ⟨by rw [HV.out];have:=HN.out;simp;omega,rfl⟩
theorem Ed (b r:Nat) (K:KV) (T:List DM) (q:aA) (w:World) (h:aF w b K T q) (hw:K.Wf []) (ho:K.Ord) (hr:r<=4294967295) (ht:K.A.tk r=true) :
  Calls Tryz.prog 238 #[.pointer (some ⟨b,0,none⟩),.int .u32 r] w fun e w'=>e=.returned (.int .i64 (K.dep r))/\af [] w w':=by
 obtain ⟨p,hp,aH⟩:=ag.aP.1 ht;have Bv:=ho.pm.ll;have zx:=hw.vs;have mO:=ah h.blk;have HP:=Lib.hid hp;have HPT:=Lib.hid aH;have HM:=Lib.hid h
 by_cases h2:2<=r
 ·obtain ⟨p',v,jo,lQ,hv,gK,_,_,hd⟩:=hw.cZ h2 ht
  rw [hp] at jo;cases jo
  have HV:=Lib.hid hv;have HD:=Lib.hid hd
  have ana:v<K.level.length:=by omega
  clear h hw ho ht hp aH lQ hd
  go_enter Tryz.func238,Tryz.ntmps238
  go_wp2_with fail;refine (jL b r K T q p w HM.out hr HP.out HPT.out).mono ?_;rintro e w1 ⟨rfl,hu⟩;rw [HV.out];have m1:=(HM.out.upd hu (by simp)).upd ((af.refl [] w1).alloc (.cells #[.int .i64 (v:Int),.int .u32 p.lo,.int .u32 p.hi] 116 (0,0))) (by simp);obtain ⟨gl,cl,_,c6,cv,_,_⟩:=m1.PX ana;have hn:=heap_alloc_new w1 (.cells #[.int .i64 (v:Int),.int .u32 p.lo,.int .u32 p.hi] 116 (0,0));have b0:(w1.alloc (.cells #[.int .i64 (v:Int),.int .u32 p.lo,.int .u32 p.hi] 116 (0,0))).cell? ⟨w1.heap.size,0,none⟩=some (.int .i64 v):=ae hn rfl
  have hvi:(v:Int)<(K.level.length:Int):=by omega
  have JP:K.level.length<=64:=by omega
  have HU:=Lib.hid hu;clear hu m1 hn hv;go_wp2_with fail
  go_quiet (fail)
  go_wp2_with fail;go_ret;exact ⟨by rw [HD.out];rfl,(HU.out.alloc _).drewN _⟩
 ·have hd:=hw.dH (r:=r) (by omega)
  have hv:p.var=-1:=by
   match r,h2,hp with
   | 0,_,hp=>rw [hw.ok.c0] at hp;cases hp;rfl
   | 1,_,hp=>rw [hw.ok.c1] at hp;cases hp;rfl
   | r+2,h2,_=>omega
  have HD:=Lib.hid hd;have HV:=Lib.hid hv;clear h hw ho ht hp aH hd hv
  go_enter Tryz.func238,Tryz.ntmps238
  go_wp2_with fail;refine (jL b r K T q p w HM.out hr HP.out HPT.out).mono ?_;rintro e w1 ⟨rfl,hu⟩;rw [HV.out];have m1:=(HM.out.upd hu (by simp)).upd ((af.refl [] w1).alloc (.cells #[.int .i64 (-1),.int .u32 p.lo,.int .u32 p.hi] 116 (0,0))) (by simp);have c4:(w1.alloc (.cells #[.int .i64 (-1),.int .u32 p.lo,.int .u32 p.hi] 116 (0,0))).cell? ⟨b,4,none⟩=some (.int .i64 K.vars):=ae m1.blk rfl;have hn:=heap_alloc_new w1 (.cells #[.int .i64 (-1),.int .u32 p.lo,.int .u32 p.hi] 116 (0,0));have b0:(w1.alloc (.cells #[.int .i64 (-1),.int .u32 p.lo,.int .u32 p.hi] 116 (0,0))).cell? ⟨w1.heap.size,0,none⟩=some (.int .i64 (-1)):=ae hn rfl;have HU:=Lib.hid hu;clear hu m1 hn;go_wp2_with fail;go_ret;exact ⟨by rw [HD.out];rfl,HU.out.alloc _⟩
def KV.dY (K:KV) (v:Int) (lo hi:Nat):Int :=
 if K.isVar v=false then 2 else if K.A.tk lo=false\/K.A.tk hi=false then 3 else if lo≠hi/\¬ K.lev v.toNat<min (K.dep lo) (K.dep hi) then 4 else 0
structure Still (w:World) where
 x:World
 u:af [] w x
instance (w:World):Nonempty (Still w):=⟨⟨w,af.refl _ _⟩⟩
theorem wp_region_still {P:Program} {id:Nat} {Q:Exit->Act->World->Prop} {a:Act} {w:World} {l:List Oper} (hm:P.follows .mixedOrders=true) (hB:Region.lexB .any l.toArray=true)
  (h:wpQuiet P l.toArray (fun w'=>∃ n:Still w,w'=n.x) (fun a'=>∀ w',(∃ n:Still w,w'=n.x)->Q .normal a' w') l a):(Code.region id l.toArray true).wp P Q a w :=
 wp_region_quiet (C:=fun w'=>∃ n:Still w,w'=n.x) hm hB ⟨⟨_,(af.refl [] w).drew⟩,rfl⟩ (by rw [List.toList_toArray];exact h)
theorem Still.cell {w:World} (n:Still w) {a:Addr} {v:Value} (h:w.cell? a=some v):n.x.cell? a=some v:=(n.u.cell (World.block_lt_of_cell? _ _ h) (by simp)).trans h
theorem mW (b:Nat) (v:Int) (lo hi:Nat) (K:KV) (T:List DM) (q:aA) (w:World) (h:aF w b K T q) (hw:K.Wf []) (ho:K.Ord) (h1:lo<=4294967295) (h2:hi<=4294967295) :
  Calls Tryz.prog 204 #[.pointer (some ⟨b,0,none⟩),.int .i64 v,.int .u32 lo,.int .u32 hi] w fun e w'=>e=.returned (.int .i64 (K.dY v lo hi))/\af [] w w':=by
 have HM:=Lib.hid h;have HW:=Lib.hid (And.intro hw ho)
 cases hV:K.isVar v with
 | false =>
  have HV:=Lib.hid hV;clear h hw ho hV
  go_enter Tryz.func204,Tryz.ntmps204
  go_wp2_with fail;refine (iT b v K T q w HM.out).mono ?_;rintro e w1 ⟨rfl,rfl⟩;rw [HV.out];go_wp2_with fail;go_ret;exact ⟨by unfold KV.dY;rw [if_pos HV.out];rfl,af.refl _ _⟩
 | true =>
  have HV:=Lib.hid hV
  have Xo:∃ n:Nat,v=(n:Int)/\n<K.vars:=by
   simp [KV.isVar] at hV
   exact ⟨v.toNat,by omega,by omega⟩
  obtain ⟨n,rfl,hn⟩:=Xo
  cases hl:K.A.tk lo with
  | false =>
   have HL:=Lib.hid hl;clear h hw ho hV hl
   go_enter Tryz.func204,Tryz.ntmps204
   go_wp2_with fail;refine (iT b n K T q w HM.out).mono ?_;rintro e w1 ⟨rfl,rfl⟩;rw [HV.out];go_wp2_with fail;refine (fK b lo K T q _ HM.out h1).mono ?_;rintro e w2 ⟨rfl,hu⟩;rw [HL.out];have HU:=Lib.hid hu;clear hu;go_wp2_with fail;go_ret;exact ⟨by unfold KV.dY;rw [if_neg (by rw [HV.out];simp),if_pos (.inl HL.out)];rfl,HU.out⟩
  | true =>
   have HL:=Lib.hid hl
   cases hh:K.A.tk hi with
   | false =>
    have HH:=Lib.hid hh;clear h hw ho hV hl hh
    go_enter Tryz.func204,Tryz.ntmps204
    go_wp2_with fail;refine (iT b n K T q w HM.out).mono ?_;rintro e w1 ⟨rfl,rfl⟩;rw [HV.out];go_wp2_with fail;refine (fK b lo K T q _ HM.out h1).mono ?_;rintro e w2 ⟨rfl,hu⟩;rw [HL.out];have HU:=Lib.hid hu;clear hu;go_wp2_with fail;refine (fK b hi K T q _ (HM.out.upd HU.out (by simp)) h2).mono ?_;rintro e w3 ⟨rfl,hu⟩;rw [HH.out];have eF:=Lib.hid (HU.out.trans hu);clear hu;go_wp2_with fail;go_ret;exact ⟨by unfold KV.dY;rw [if_neg (by rw [HV.out];simp),if_pos (.inr HH.out)];rfl,eF.out⟩
   | true =>
    have HH:=Lib.hid hh
    by_cases uV:lo=hi
    ·subst uV
     clear h hw ho hV hl hh
     go_enter Tryz.func204,Tryz.ntmps204
     go_wp2_with fail;refine (iT b n K T q w HM.out).mono ?_;rintro e w1 ⟨rfl,rfl⟩;rw [HV.out];go_wp2_with fail;refine (fK b lo K T q _ HM.out h1).mono ?_;rintro e w2 ⟨rfl,hu⟩;rw [HL.out];have HU:=Lib.hid hu;clear hu;go_wp2_with fail;refine (fK b lo K T q _ (HM.out.upd HU.out (by simp)) h2).mono ?_;rintro e w3 ⟨rfl,hu⟩;rw [HH.out];have eF:=Lib.hid (HU.out.trans hu);clear hu;go_wp2_with fail
     go_quiet (fail)
     go_wp2_with fail;go_ret;exact ⟨by unfold KV.dY;rw [if_neg (by rw [HV.out];simp),if_neg (by rw [HL.out];simp),if_neg (by simp)];rfl,eF.out.drewN _⟩
    ·have EU:=Lib.hid uV
     have hd:decide ((lo:Int)=(hi:Int))=false:=by simp;omega
     have wP:¬ ((lo:Int)=(hi:Int)):=by omega
     have U0:((lo:Int) != (hi:Int))=true:=by simp;omega
     clear h hw ho hV hl hh
     go_enter Tryz.func204,Tryz.ntmps204
     go_wp2_with fail;refine (iT b n K T q w HM.out).mono ?_;rintro e w1 ⟨rfl,rfl⟩;rw [HV.out];go_wp2_with fail;refine (fK b lo K T q _ HM.out h1).mono ?_;rintro e w2 ⟨rfl,hu⟩;rw [HL.out];have HU:=Lib.hid hu;clear hu;go_wp2_with fail;refine (fK b hi K T q _ (HM.out.upd HU.out (by simp)) h2).mono ?_;rintro e w3 ⟨rfl,hu⟩;rw [HH.out];have eF:=Lib.hid (HU.out.trans hu);clear hu;have Bv:=HW.out.2.pm.ll;have zx:=HW.out.1.vs;obtain ⟨gl,cl,Xx,c6,cv,_,FD⟩:=(HM.out.upd eF.out (by simp)).PX (show n<K.level.length by omega)
     have hvi:(n:Int)<(K.level.length:Int):=by omega
     have JP:K.level.length<=64:=by omega
     clear Bv Xx FD
     have q6:∀ n':Still w3,n'.x.cell? ⟨b,6,none⟩=some (.slice (some ⟨gl,0,none⟩) K.level.length cl):=fun n'=>n'.cell c6
     have qv:∀ n':Still w3,n'.x.cell? ⟨gl,n,none⟩=some (.int .i64 (K.lev n)):=fun n'=>n'.cell cv
     have HD1:Hid (∀ n':Still w3,Calls Tryz.prog 238 #[.pointer (some ⟨b,0,none⟩),.int .u32 lo] n'.x fun e w''=>e=.returned (.int .i64 (K.dep lo))/\∃ m:Still w3,w''=m.x):=fun n' =>
      (Ed b lo K T q _ (HM.out.upd (eF.out.trans n'.u) (by simp)) HW.out.1 HW.out.2 h1 HL.out).mono fun _ _ ⟨a,u⟩=>⟨a,⟨_,n'.u.trans u⟩,rfl⟩
     have HD2:Hid (∀ n':Still w3,Calls Tryz.prog 238 #[.pointer (some ⟨b,0,none⟩),.int .u32 hi] n'.x fun e w''=>e=.returned (.int .i64 (K.dep hi))/\∃ m:Still w3,w''=m.x):=fun n' =>
      (Ed b hi K T q _ (HM.out.upd (eF.out.trans n'.u) (by simp)) HW.out.1 HW.out.2 h2 HH.out).mono fun _ _ ⟨a,u⟩=>⟨a,⟨_,n'.u.trans u⟩,rfl⟩
     clear c6 cv;go_wp2_with fail;refine wp_region_still (by kernel_rfl) (by kernel_rfl) ?_
     repeat (quiet_step ((first | (go_at_call_of 238 (Value.int IntKind.u32 (lo:Int));exact HD1.out _) | (go_at_call_of 238 (Value.int IntKind.u32 (hi:Int));exact HD2.out _))))
     refine wpQuiet_nil ?_;rintro _ ⟨nq,rfl⟩;have HN:=Lib.hid (eF.out.trans nq.u)
     have HF:Hid (K.dY n lo hi=if ¬ K.lev n<min (K.dep lo) (K.dep hi) then 4 else 0):=by
      show K.dY n lo hi=_
      unfold KV.dY;rw [if_neg (by rw [HV.out];simp),if_neg (by rw [HL.out,HH.out];simp),Int.toNat_natCast]
      simp only [EU.out,ne_eq,not_false_eq_true,true_and]
     generalize OI:(if K.dep hi<K.dep lo then ((K.dep hi:Nat):Int) else ((K.dep lo:Nat):Int))=mm;have HMM:=Lib.hid OI;clear OI
     cases hdd:decide (mm<=(K.lev n:Int)) with
     | true =>
      have HF4:Hid (K.dY n lo hi=4):=by
       have hh:=of_decide_eq_true hdd;have OI:=HMM.out
       show K.dY n lo hi=4
       rw [HF.out,if_pos (by split at OI <;> omega)]
      go_wp2_with fail;go_ret;exact ⟨by rw [HF4.out];rfl,HN.out⟩
     | false =>
      have HF4:Hid (K.dY n lo hi=0):=by
       have hh:=of_decide_eq_false hdd;have OI:=HMM.out
       show K.dY n lo hi=0
       rw [HF.out,if_neg (by split at OI <;> omega)]
      go_wp2_with fail;go_ret;exact ⟨by rw [HF4.out];rfl,HN.out⟩
def KV.At (K:KV) (r v lo hi:Nat):Prop:=2<=r/\∃ p,K.A.list[r]?=some p/\p.taken=true/\p.var=(v:Int)/\p.lo=lo/\p.hi=hi
theorem KV.At.tk {K:KV} {r v lo hi:Nat} (h:K.At r v lo hi):K.A.tk r=true:=by
 obtain ⟨_,p,hp,aH,_⟩:=h;exact ag.aP.2 ⟨p,hp,aH⟩
theorem KV.At.lt {K:KV} {P:List Nat} {r v lo hi:Nat} (h:K.At r v lo hi) (hw:K.Wf P):r<=1048575:=by
 have h1:=hw.tu r h.1 h.tk;have h4:=hw.ul;have h5:=hw.ok.lp;have h6:=hw.ok.pm;omega
theorem dW.look {T:List DM} {K:KV} {P:List Nat} {v lo hi:Nat} {D:DM} (h:dW T K []) (hw:K.Wf P) (hv:v<K.vars) (hD:T[v]?=some D) (h1:lo<=4294967295) (h2:hi<=4294967295) {c:Int} (hc:D.atKey (nk v lo hi) (.lit (.int .u32 0))=.lit (.int .u32 c)) :
  (Maps.has D (nk v lo hi)=true/\∃ r:Nat,c=(r:Int)/\K.At r v lo hi)\/(Maps.has D (nk v lo hi)=false/\c=0/\∀ r,¬ K.At r v lo hi):=by
 have zx:=hw.vs
 cases hh:Maps.has D (nk v lo hi) with
 | true =>
  left;obtain ⟨r,p,hr,hp,aH,kD,hk,_⟩:=h.dom v D _ hD hh;have h4:=hw.ok.u32 p (List.mem_of_getElem? hp);have oV:=hw.vr r p hr hp aH;obtain ⟨e1,e2,e3⟩:=tY (vw (by omega) (by omega)) (jw h1) (jw h2) (vw (by omega) (by omega)) (jw h4.1) (jw h4.2.1) hk;have bI:=(h.at_ r p D hr hp aH (by simp) (by rw [kD];exact hD)).2 (.lit (.int .u32 0));rw [<- hk,hc] at bI
  simp at bI
  exact ⟨rfl,r,bI,hr,p,hp,aH,kD,e2.symm,e3.symm⟩
 | false =>
  right;rw [atKey_of_not_has hh] at hc
  simp at hc
  refine ⟨rfl,hc.symm,?_⟩;rintro r ⟨hr,p,hp,aH,e1,e2,e3⟩;have:=(h.at_ r p D hr hp aH (by simp) (by rw [e1];exact hD)).1;rw [show kG p=nk v lo hi by simp [kG,e1,e2,e3],hh] at this;cases this
theorem dW.ZJ {T:List DM} {K:KV} {v lo hi:Nat} {D:DM} (h:dW T K []) (hD:T[v]?=some D) (bK:∀ r,¬ K.At r v lo hi) (hw:K.Wf []) (hv:v<K.vars) (h1:lo<=4294967295) (h2:hi<=4294967295):Maps.has D (nk v lo hi)=false:=by
 have zx:=hw.vs
 cases hh:Maps.has D (nk v lo hi) with
 | false=>rfl
 | true =>
  exfalso
  obtain ⟨r,p,hr,hp,aH,kD,hk,_⟩:=h.dom v D _ hD hh;have h4:=hw.ok.u32 p (List.mem_of_getElem? hp);have oV:=hw.vr r p hr hp aH;obtain ⟨e1,e2,e3⟩:=tY (vw (by omega) (by omega)) (jw h1) (jw h2) (vw (by omega) (by omega)) (jw h4.1) (jw h4.2.1) hk;exact bK r ⟨hr,p,hp,aH,kD,e2.symm,e3.symm⟩
theorem GK (b r:Nat) (v:Int) (w:World) :
  Calls Tryz.prog 205 #[.pointer (some ⟨b,0,none⟩),.int .i64 v,.int .u32 r,.int .u32 r] w fun e w'=>e=.returned (.tuple #[.int .u32 r,.bool true])/\w'=w:=by
 go_enter Tryz.func205,Tryz.ntmps205
 go_wp2_with fail;go_ret2;exact ⟨rfl,rfl⟩
theorem GL (b v lo hi:Nat) (K:KV) (T:List DM) (q:aA) (w:World) (h:aF w b K T q) (hw:K.Wf []) (ht:dW T K []) (hv:v<K.vars) (h1:lo<=4294967295) (h2:hi<=4294967295) (hne:lo≠hi) :
  Calls Tryz.prog 205 #[.pointer (some ⟨b,0,none⟩),.int .i64 v,.int .u32 lo,.int .u32 hi] w fun e w' =>
   af [] w w'/\((∃ r:Nat,e=.returned (.tuple #[.int .u32 r,.bool true])/\K.At r v lo hi)\/(e=.returned (.tuple #[.int .u32 0,.bool false])/\∀ r,¬ K.At r v lo hi)):=by
 have hlen:=ht.len;have hD:T[v]?=some (T[v]'(by omega)):=List.getElem?_eq_getElem (by omega);generalize T[v]'(by omega)=D at hD;have c1:w.cell? ⟨b,1,none⟩=some (.pointer (some ⟨q.t,0,none⟩)):=ae h.blk rfl;have HT:=Lib.hid h.tab;have HD:=Lib.hid hD;have HL:=Lib.hid (And.intro hw ht)
 have hd:¬ ((lo:Int)=(hi:Int)):=by omega
 have U0:((lo:Int) == (hi:Int))=false:=by simp;omega
 clear h hw ht hlen hD
 go_enter Tryz.func205,Tryz.ntmps205
 go_wp2_with fail;refine (find_spec q.t q.FT v lo hi T D _ HT.out HD.out h1 h2).mono ?_;rintro e w1 ⟨c,rfl,hc,hu⟩;have HC:=Lib.hid (HL.out.2.look HL.out.1 hv HD.out h1 h2 hc);have HU:=Lib.hid hu;clear hc hu;generalize Maps.has D (nk v lo hi)=bb at HC;go_wp2_with fail;go_ret2;refine ⟨HU.out,?_⟩
 rcases HC.out with ⟨rfl,r,rfl,ha⟩ | ⟨rfl,rfl,bK⟩
 ·exact .inl ⟨r,rfl,ha⟩
 ·exact .inr ⟨rfl,bK⟩
theorem Sub.IY {S S':List Nat} {w:World} (h:∀ k,k∈S'->k∈S):Sub S w S':=fun k hk=>.inl (h k hk)
def KV.Has (K:KV) (v:Int) (lo hi r:Nat):Prop:=(lo=hi/\r=lo)\/(lo≠hi/\K.At r v.toNat lo hi)
inductive jJ (K:KV) (v:Int) (lo hi:Nat):Nat->Int->KV->Prop
 | bad (h0:K.dY v lo hi≠0):jJ K v lo hi 0 (K.dY v lo hi) K
 | full {r:Nat} (h0:K.dY v lo hi=0) (hs:K.Has v lo hi r) (hm:K.hold r=65535):jJ K v lo hi 0 8 K
 | old {r:Nat} (h0:K.dY v lo hi=0) (hs:K.Has v lo hi r) (hm:K.hold r<65535):jJ K v lo hi r 0 (K.bW r)
 | nodes (h0:K.dY v lo hi=0) (hne:lo≠hi) (bK:∀ r,¬ K.At r v.toNat lo hi) (hu:K.A.used=K.A.places):jJ K v lo hi 0 9 K
 | new {r:Nat} {K':KV} (h0:K.dY v lo hi=0) (hne:lo≠hi) (bK:∀ r,¬ K.At r v.toNat lo hi) (hm:K.Made v.toNat lo hi r K'):jJ K v lo hi r 0 K'
theorem KV.abn {K:KV} {v:Int} {lo hi:Nat} (h:K.dY v lo hi=0):∃ n:Nat,v=(n:Int)/\n<K.vars/\K.A.tk lo=true/\K.A.tk hi=true/\(lo≠hi->K.lev n<K.dep lo/\K.lev n<K.dep hi):=by
 unfold KV.dY at h
 split at h
 ·omega
 ·rename_i h1
  split at h
  ·omega
  ·rename_i h2
   split at h
   ·omega
   ·rename_i h3
    simp [KV.isVar] at h1
    refine ⟨v.toNat,by omega,by omega,?_,?_,fun hne=>?_⟩
    ·cases e:K.A.tk lo
     ·exact absurd (.inl e) h2
     ·rfl
    ·cases e:K.A.tk hi
     ·exact absurd (.inr e) h2
     ·rfl
    ·by_cases h4:K.lev v.toNat<min (K.dep lo) (K.dep hi)
     ·omega
     ·exact absurd ⟨hne,h4⟩ h3
theorem jJ.PY {K:KV} {v:Int} {lo hi r:Nat} {code:Int} {K':KV} (h0:K.dY v lo hi=0) (hs:K.Has v lo hi r) (h:(code=8/\K.hold r=65535/\K'=K)\/(code=0/\K.hold r<65535/\K'=K.bW r)) :
  jJ K v lo hi (if code=0 then r else 0) code K':=by
 rcases h with ⟨rfl,h,rfl⟩ | ⟨rfl,h,rfl⟩
 ·exact .full h0 hs h
 ·exact .old h0 hs h
theorem yH (b:Nat) (v:Int) (lo hi:Nat) (K:KV) (T:List DM) (q:aA) (w:World) (h:bV w b K T q) (h1:lo<=4294967295) (h2:hi<=4294967295) :
  Calls Tryz.prog 137 #[.pointer (some ⟨b,0,none⟩),.int .i64 v,.int .u32 lo,.int .u32 hi] w fun e w' =>
   ∃ (r:Nat) (code:Int) (K':KV) (T':List DM) (q':aA),e=.returned (.tuple #[.int .u32 r,.int .i64 code])/\jJ K v lo hi r code K'/\bV w' b K' T' q'/\af (q.all b) w w'/\Sub (q.all b) w (q'.all b):=by
 have HK:=Lib.hid h
 by_cases hf:K.dY v lo hi=0
 ·obtain ⟨n,rfl,hn,hl,hh,aW⟩:=KV.abn hf
  have HF:=Lib.hid hf;have HL:=Lib.hid (And.intro hl (And.intro hh aW))
  by_cases uV:lo=hi
  ·subst uV
   have hS:Hid (K.Has n lo lo lo):=.inl ⟨rfl,rfl⟩;clear h hf hl hh aW
   go_enter Tryz.func137,Tryz.ntmps137
   go_wp2_with fail;refine (mW b n lo lo K T q _ HK.out.mem HK.out.ok.wf HK.out.ok.ord h1 h2).mono ?_;rintro e w1 ⟨rfl,hu⟩;rw [HF.out];have HU:=Lib.hid hu;clear hu;go_wp2_with fail;refine (GK b lo n w1).mono ?_;rintro e w2 ⟨rfl,rfl⟩;go_wp2_with fail;refine (yt b lo K T q _ (HK.out.upd HU.out (by simp)) h1 HL.out.1).mono ?_;rintro e w3 ⟨code,K',q',rfl,hc,hk,fG,xG⟩;have HE:=Lib.hid (And.intro (jJ.PY HF.out hS.out hc) (And.intro hk (And.intro (HU.out.vV fG) (Sub.IY (w:=w) xG))))
   have Dw:code=8\/code=0:=by rcases hc with hc | hc <;> simp [hc.1]
   clear hc hk fG xG
   rcases Dw with rfl | rfl
   ·go_wp2_with fail
    go_ret2;exact ⟨_,_,_,_,_,rfl,HE.out⟩
   ·go_wp2_with fail
    go_ret2;exact ⟨_,_,_,_,_,rfl,HE.out⟩
  ·have EU:=Lib.hid uV
   clear h hf hl hh aW
   go_enter Tryz.func137,Tryz.ntmps137
   go_wp2_with fail;refine (mW b n lo hi K T q _ HK.out.mem HK.out.ok.wf HK.out.ok.ord h1 h2).mono ?_;rintro e w1 ⟨rfl,hu⟩;rw [HF.out];have HU:=Lib.hid hu;clear hu;go_wp2_with fail;refine (GL b n lo hi K T q _ (HK.out.mem.upd HU.out (by simp)) HK.out.ok.wf HK.out.ti hn h1 h2 uV).mono ?_;rintro e w2 ⟨jE,hr⟩;have eF:=Lib.hid (HU.out.trans jE);clear jE
   rcases hr with ⟨r,rfl,ha⟩ | ⟨rfl,bK⟩
   ·have hS:Hid (K.Has n lo hi r):=.inr ⟨uV,by simpa using ha⟩
    have oQ:r<=4294967295:=by have:=ha.lt HK.out.ok.wf;omega
    have HA:=Lib.hid ha;clear ha;go_wp2_with fail;refine (yt b r K T q _ (HK.out.upd eF.out (by simp)) oQ HA.out.tk).mono ?_;rintro e w3 ⟨code,K',q',rfl,hc,hk,fG,xG⟩;have HE:=Lib.hid (And.intro (jJ.PY HF.out hS.out hc) (And.intro hk (And.intro (eF.out.vV fG) (Sub.IY (w:=w) xG))))
    have Dw:code=8\/code=0:=by rcases hc with hc | hc <;> simp [hc.1]
    clear hc hk fG xG
    rcases Dw with rfl | rfl
    ·go_wp2_with fail
     go_ret2;exact ⟨_,_,_,_,_,rfl,HE.out⟩
    ·go_wp2_with fail
     go_ret2;exact ⟨_,_,_,_,_,rfl,HE.out⟩
   ·have FP:=Lib.hid bK
    clear bK;go_wp2_with fail;refine (Gj b 1 K T q _ (HK.out.mem.upd eF.out (by simp)) (by omega) (by omega)).mono ?_;rintro e w3 ⟨rfl,fG⟩;have o8:=Lib.hid (eF.out.trans fG);clear fG
    cases hrm:K.room 1 with
    | false =>
     have XB:Hid (K.A.used=K.A.places):=by
      have h4:=HK.out.ok.wf.ok.us;have h5:=HK.out.ok.wf.ok.lp
      simp [KV.room] at hrm
      show K.A.used=K.A.places
      omega
     clear hrm;go_wp2_with fail;go_ret2;exact ⟨0,9,K,T,q,rfl,.nodes HF.out EU.out (by simpa using FP.out) XB.out,HK.out.upd o8.out (by simp),o8.out.mono (by simp),Sub.refl _ _⟩
    | true =>
     have XB:Hid (K.A.used<K.A.places):=by
      simp [KV.room] at hrm
      show K.A.used<K.A.places
      omega
     clear hrm;have hlen:=HK.out.ti.len;have hD:T[n]?=some (T[n]'(by omega)):=List.getElem?_eq_getElem (by omega);generalize T[n]'(by omega)=D at hD;have HD:=Lib.hid hD;have HDN:=Lib.hid (HK.out.ti.ZJ hD FP.out HK.out.ok.wf hn h1 h2);clear hlen hD;go_wp2_with fail;refine (Gi b n lo hi K [] T D q _ (HK.out.mem.upd o8.out (by simp)) HK.out.ok.wf HK.out.ti (by simp) hn HL.out.1 HL.out.2.1 h1 h2 HD.out HDN.out XB.out).mono ?_;rintro e w4 ⟨r,K1,q1,rfl,tk,m4,u4,s4⟩
     have oQ:r<=4294967295:=by have:=tk.fr.room;omega
     have EL:=tk.wf HK.out.ok.wf HL.out.1 HL.out.2.1 ⟨by omega,by omega⟩
     have qG:K1.A.tk r=true:=by rw [tk.fr.tk];simp
     have J4:K1.hold r<65535:=by rw [tk.hd,if_pos rfl];omega
     have HT:=Lib.hid (And.intro tk (And.intro m4 (And.intro (o8.out.vV u4) (And.intro EL (And.intro qG (And.intro J4 s4))))));clear tk m4 u4 s4 EL qG J4;go_wp2_with fail;refine (KY b r K1 _ q1 _ HT.out.2.1 HT.out.2.2.2.1 oQ HT.out.2.2.2.2.1 HT.out.2.2.2.2.2.1).mono ?_;rintro e w5 ⟨rfl,q2,m5,u5,s5⟩
     have HE:Hid (jJ K n lo hi r 0 (K1.bW r)/\bV w5 b (K1.bW r) (T.set n (D.put (nk n lo hi) (.lit (.int .u32 r)))) q2/\af (q.all b) w w5/\Sub (q.all b) w (q2.all b)):=by
      obtain ⟨tk,m4,u4,EL,qG,J4,s4⟩:=HT.out;have abo:=HK.out.ok.made tk HL.out.1 HL.out.2.1 hn EU.out (HL.out.2.2 EU.out).1 (HL.out.2.2 EU.out).2
      have s4':Sub (q.all b) w (q1.all b):=fun k hk=>by
       have:=o8.out.size
       rcases s4 k hk with h | h
       ·exact .inl h
       ·right;omega
      exact ⟨.new HF.out EU.out (by simpa using FP.out) (by simpa using abo.2),⟨m5,(HK.out.ti.took tk HD.out HDN.out).same (K1.dO r) (K1.iO r),abo.1⟩,
       u4.then u5 s4',fun k hk=>s4' k (s5 k hk)⟩
     clear m5 u5 s5;go_wp2_with fail;go_ret2;exact ⟨_,_,_,_,_,rfl,HE.out⟩
 ·have HE:Hid (jJ K v lo hi 0 (K.dY v lo hi) K):=.bad hf
  have HF:Hid (∀ w1,af [] w w1->bV w1 b K T q):=fun w1 u=>h.upd u (by simp)
  have HC:=mW b v lo hi K T q w h.mem h.ok.wf h.ok.ord h1 h2;generalize K.dY v lo hi=c at hf HE HC;have HC:=Lib.hid HC
  have hf2:(c != 0)=true:=by simpa using hf
  clear h
  go_enter Tryz.func137,Tryz.ntmps137
  go_wp2_with fail;refine HC.out.mono ?_;rintro e w1 ⟨rfl,hu⟩;have HU:=Lib.hid hu;clear hu;go_wp2_with fail;go_ret2;exact ⟨0,c,K,T,q,rfl,HE.out,HF.out _ HU.out,HU.out.mono (by simp),Sub.refl _ _⟩
theorem FH (b:Nat) (K:KV) (T:List DM) (q:aA) (w:World) (h:aF w b K T q) :
  Calls Tryz.prog 74 #[.pointer (some ⟨b,0,none⟩)] w fun e w'=>e=.returned (.int .i64 K.vars)/\w'=w:=by
 have c4:w.cell? ⟨b,4,none⟩=some (.int .i64 K.vars):=ae h.blk rfl;clear h
 go_enter Tryz.func74,Tryz.ntmps74
 go_wp2_with fail;go_ret;exact ⟨rfl,rfl⟩
theorem CX (b:Nat) (K:KV) (T:List DM) (q:aA) (w:World) (h:aF w b K T q) :
  Calls Tryz.prog 33 #[.pointer (some ⟨b,0,none⟩)] w fun e w'=>e=.returned (.int .i64 ((K.A.used:Int)-2))/\w'=w:=by
 have c0:w.cell? ⟨b,0,none⟩=some (.pointer (some ⟨q.a,0,none⟩)):=ae h.blk rfl;have h1:=h.ar.ok.us;have h2:=h.ar.ok.lp;have h3:=h.ar.ok.pm
 have hu:K.A.used<=1048576:=by omega
 have e1:IntKind.i64.wrap ((K.A.used:Int)-2)=(K.A.used:Int)-2:=IntWalk.i64_in _ (by omega);have HA:=Lib.hid h.ar;clear h h1 h2 h3
 go_enter Tryz.func33,Tryz.ntmps33
 go_wp2_with fail;refine (Fh q.a q.FA K.A w HA.out).mono ?_;rintro e w1 ⟨rfl,rfl⟩;go_wp2_with fail;go_ret;exact ⟨rfl,rfl⟩
theorem zn (b r:Nat) (K:KV) (T:List DM) (q:aA) (w:World) (h:aF w b K T q) (_hl:K.holds.length<=1048576) (hm:K.hold r<=65535) (hr:r<=4294967295) :
  Calls Tryz.prog 82 #[.pointer (some ⟨b,0,none⟩),.int .u32 r] w fun e w'=>e=.returned (.int .i64 (K.hold r))/\w'=w:=by
 have e64:wrap64 (K.hold r:Int)=(K.hold r:Int):=by unfold wrap64;omega
 obtain ⟨fa,fc,oG,_⟩:=aj h.hs
 have IX:q.hv=.slice fa K.holds.length fc:=by rw [oG]
 have c3:w.cell? ⟨b,3,none⟩=some (.slice fa K.holds.length fc):=by rw [<- IX];exact ae h.blk rfl
 by_cases aW:r<K.holds.length
 ·obtain ⟨g,c,hq,c3',cu,_,_⟩:=h.qo aW
  have e:fa=some ⟨g,0,none⟩/\fc=c:=by rw [IX] at hq;simpa using hq
  obtain ⟨rfl,rfl⟩:=e
  have hd:decide ((K.holds.length:Int)<=(r:Int))=false:=by simp;omega
  have wP:(r:Int)<(K.holds.length:Int):=by omega
  clear h oG IX hq c3'
  go_enter Tryz.func82,Tryz.ntmps82
  go_wp2_with fail;go_ret;exact ⟨rfl,rfl⟩
 ·have hz:K.hold r=0:=by
   unfold KV.hold
   rw [List.getD_eq_getElem?_getD,List.getElem?_eq_none (by omega)];rfl
  have hd:decide ((K.holds.length:Int)<=(r:Int))=true:=by simp;omega
  have wP:(K.holds.length:Int)<=(r:Int):=by omega
  have HZ:=Lib.hid hz;clear h oG IX hz aW
  go_enter Tryz.func82,Tryz.ntmps82
  go_wp2_with fail;go_ret;exact ⟨by rw [HZ.out];rfl,rfl⟩
theorem abp {w1:World} {B:Nat} {x y z:Value} {t:TypeId} (h:w1.heap[B]?=some (.cells #[x,y,z] t (0,0))) (x' y' z':Value) :
  (((w1.setCell ⟨B,0,none⟩ x').setCell ⟨B,1,none⟩ y').setCell ⟨B,2,none⟩ z').cell? ⟨B,0,none⟩=some x' /\
  (((w1.setCell ⟨B,0,none⟩ x').setCell ⟨B,1,none⟩ y').setCell ⟨B,2,none⟩ z').cell? ⟨B,1,none⟩=some y' /\
  (((w1.setCell ⟨B,0,none⟩ x').setCell ⟨B,1,none⟩ y').setCell ⟨B,2,none⟩ z').cell? ⟨B,2,none⟩=some z':=by
 have e:=aB (j:=2) (aB (j:=1) (aB (j:=0) h x') y') z';exact ⟨ae e rfl,ae e rfl,ae e rfl⟩
theorem aen (b r:Nat) (K:KV) (T:List DM) (q:aA) (w:World) (h:aF w b K T q) (hr:r<=4294967295) (ht:K.A.tk r=false) :
  Calls Tryz.prog 48 #[.pointer (some ⟨b,0,none⟩),.int .u32 r] w fun e w'=>e=.returned (.tuple #[.agg #[.int .i64 0,.int .u32 0,.int .u32 0],.int .i64 3])/\af [] w w':=by
 have HM:=Lib.hid h;have HT:=Lib.hid ht;have hb:=ah h.blk;clear h ht
 go_enter Tryz.func48,Tryz.ntmps48
 go_wp2_with fail;refine (fK b r K T q _ (HM.out.upd ((af.refl [] w).alloc _) (by simp)) hr).mono ?_;rintro e w1 ⟨rfl,hu⟩;rw [HT.out];have aY:w1.heap[w.heap.size]?=some (.cells #[.int .i64 0,.int .u32 0,.int .u32 0] 116 (0,0)):=(hu.block w.heap.size (by simp) (by simp)).trans (heap_alloc_new w _);have b0:w1.cell? ⟨w.heap.size,0,none⟩=some (.int .i64 0):=ae aY rfl;have b1:w1.cell? ⟨w.heap.size,1,none⟩=some (.int .u32 0):=ae aY rfl;have b2:w1.cell? ⟨w.heap.size,2,none⟩=some (.int .u32 0):=ae aY rfl;have f0:=ax 0 aY;have f1:=ax 1 aY;have f2:=ax 2 aY;have hbw:=ah aY;have HX:=Lib.hid aY;have HU:Hid (af [] w w1):=((af.refl [] w).alloc _).trans (hu.mono (by simp));clear hu aY;go_wp2_with fail;obtain ⟨r0,r1,r2⟩:=abp HX.out (.int .i64 0) (.int .u32 0) (.int .u32 0);refine bodyPost_ret (v:=.tuple #[.agg #[.int .i64 0,.int .u32 0,.int .u32 0],.int .i64 3]) (by simp [results,Tryz.results48,go_sem,r0,r1,r2]) rfl ⟨rfl,?_⟩;exact ((HU.out.setCell (.inr (Nat.le_refl _)) _).setCell (.inr (Nat.le_refl _)) _).setCell (.inr (Nat.le_refl _)) _
theorem iF (b r:Nat) (K:KV) (T:List DM) (q:aA) (p:ak) (w:World) (h:aF w b K T q) (hr:r<=4294967295) (hp:K.A.list[r]?=some p) (aH:p.taken=true) :
  Calls Tryz.prog 48 #[.pointer (some ⟨b,0,none⟩),.int .u32 r] w fun e w'=>e=.returned (.tuple #[.agg #[.int .i64 p.var,.int .u32 p.lo,.int .u32 p.hi],.int .i64 0])/\af [] w w':=by
 have HM:=Lib.hid h;have HT:Hid (K.A.tk r=true):=ag.aP.2 ⟨p,hp,aH⟩;have HP:=Lib.hid (And.intro hp aH);have hb:=ah h.blk;clear h hp aH
 go_enter Tryz.func48,Tryz.ntmps48
 go_wp2_with fail;refine (fK b r K T q _ (HM.out.upd ((af.refl [] w).alloc _) (by simp)) hr).mono ?_;rintro e w1 ⟨rfl,hu⟩;rw [HT.out];have mG:Hid (af [] w w1):=((af.refl [] w).alloc _).trans (hu.mono (by simp));have ahN:w1.heap[w.heap.size]?=some (.cells #[.int .i64 0,.int .u32 0,.int .u32 0] 116 (0,0)):=(hu.block w.heap.size (by simp) (by simp)).trans (heap_alloc_new w _);have FY:=Lib.hid ahN;clear hu ahN;go_wp2_with fail;refine (jL b r K T q p _ (HM.out.upd mG.out (by simp)) hr HP.out.1 HP.out.2).mono ?_;rintro e w2 ⟨rfl,hu⟩;have aY:w2.heap[w.heap.size]?=some (.cells #[.int .i64 0,.int .u32 0,.int .u32 0] 116 (0,0)):=(hu.block w.heap.size (ah FY.out) (by simp)).trans FY.out;have b0:w2.cell? ⟨w.heap.size,0,none⟩=some (.int .i64 0):=ae aY rfl;have b1:w2.cell? ⟨w.heap.size,1,none⟩=some (.int .u32 0):=ae aY rfl;have b2:w2.cell? ⟨w.heap.size,2,none⟩=some (.int .u32 0):=ae aY rfl;have f0:=ax 0 aY;have f1:=ax 1 aY;have f2:=ax 2 aY;have hbw:=ah aY;have HX:=Lib.hid aY;have HU:=Lib.hid (mG.out.trans hu);clear hu aY;go_wp2_with fail;obtain ⟨r0,r1,r2⟩:=abp HX.out (.int .i64 p.var) (.int .u32 p.lo) (.int .u32 p.hi);refine bodyPost_ret (v:=.tuple #[.agg #[.int .i64 p.var,.int .u32 p.lo,.int .u32 p.hi],.int .i64 0]) (by simp [results,Tryz.results48,go_sem,r0,r1,r2]) rfl ⟨rfl,?_⟩;exact ((HU.out.setCell (.inr (Nat.le_refl _)) _).setCell (.inr (Nat.le_refl _)) _).setCell (.inr (Nat.le_refl _)) _
theorem Ov (b:Nat) (v:Int) (lo hi:Nat) (K:KV) (T:List DM) (q:aA) (w:World) (h:bV w b K T q) (h1:lo<=4294967295) (h2:hi<=4294967295) :
  Calls Tryz.prog 240 #[.pointer (some ⟨b,0,none⟩),.int .i64 v,.int .u32 lo,.int .u32 hi] w fun e w' =>
   af [] w w'/\((∃ r:Nat,K.dY v lo hi=0/\K.Has v lo hi r/\e=.returned (.tuple #[.int .u32 r,.bool true]))\/((K.dY v lo hi=0->lo≠hi/\∀ r,¬ K.At r v.toNat lo hi)/\e=.returned (.tuple #[.int .u32 0,.bool false]))):=by
 have HK:=Lib.hid h
 by_cases hf:K.dY v lo hi=0
 ·obtain ⟨n,rfl,hn,hl,hh,aW⟩:=KV.abn hf
  have HF:=Lib.hid hf
  by_cases uV:lo=hi
  ·subst uV
   clear h hf hl hh aW
   go_enter Tryz.func240,Tryz.ntmps240
   go_wp2_with fail;refine (mW b n lo lo K T q _ HK.out.mem HK.out.ok.wf HK.out.ok.ord h1 h2).mono ?_;rintro e w1 ⟨rfl,hu⟩;rw [HF.out];have HU:=Lib.hid hu;clear hu;go_wp2_with fail;refine (GK b lo n w1).mono ?_;rintro e w2 ⟨rfl,rfl⟩;go_wp2_with fail;go_ret2;exact ⟨HU.out,.inl ⟨lo,HF.out,.inl ⟨rfl,rfl⟩,rfl⟩⟩
  ·have EU:=Lib.hid uV
   clear h hf hl hh aW
   go_enter Tryz.func240,Tryz.ntmps240
   go_wp2_with fail;refine (mW b n lo hi K T q _ HK.out.mem HK.out.ok.wf HK.out.ok.ord h1 h2).mono ?_;rintro e w1 ⟨rfl,hu⟩;rw [HF.out];have HU:=Lib.hid hu;clear hu;go_wp2_with fail;refine (GL b n lo hi K T q _ (HK.out.mem.upd HU.out (by simp)) HK.out.ok.wf HK.out.ti hn h1 h2 uV).mono ?_;rintro e w2 ⟨jE,hr⟩;have eF:=Lib.hid (HU.out.trans jE);clear jE
   rcases hr with ⟨r,rfl,ha⟩ | ⟨rfl,bK⟩
   ·have HA:=Lib.hid ha
    clear ha;go_wp2_with fail;go_ret2;exact ⟨eF.out,.inl ⟨r,HF.out,.inr ⟨EU.out,by simpa using HA.out⟩,rfl⟩⟩
   ·have FP:=Lib.hid bK
    clear bK;go_wp2_with fail;go_ret2;exact ⟨eF.out,.inr ⟨fun _=>⟨EU.out,by simpa using FP.out⟩,rfl⟩⟩
 ·have HC:=mW b v lo hi K T q w h.mem h.ok.wf h.ok.ord h1 h2
  have HE:Hid (K.dY v lo hi≠0):=hf;generalize hc:K.dY v lo hi=c at hf HC HE;have HC:=Lib.hid HC
  have hf2:(c != 0)=true:=by simpa using hf
  clear h hc
  go_enter Tryz.func240,Tryz.ntmps240
  go_wp2_with fail;refine HC.out.mono ?_;rintro e w1 ⟨rfl,hu⟩;have HU:=Lib.hid hu;clear hu;go_wp2_with fail;go_ret2;exact ⟨HU.out,.inr ⟨fun h=>absurd h HE.out,rfl⟩⟩
def KV.ik (K:KV):KV:={ K with trail:=[] }
theorem KV.Ok.dropped {K K1:KV} {r:Nat} (h:K.Ok) (hh:0<K.hold r) (hw:K1.Wf []) (hle:K1.Le (K.rM r)) (hp:K1.Pos):K1.ik.Ok/\K.Dropped r K1.ik:=by
 have h2:=(h.wf.ht r hh).1;have e0:K1.Ext K:=⟨hle.nd,hle.pl.symm,hle.vr.symm,hle.od.symm,hle.lv.symm⟩;have ho:=e0.JR hw h.ord;refine ⟨⟨⟨hw.ok,hw.len,hw.ul,hw.tu,hw.ht,hw.hm,hw.eq,hw.pt,hw.cl,hw.vr,hw.vs⟩,hp,ho.same rfl rfl rfl rfl,by simp [KV.ik]⟩,⟨e0.nd,e0.pl,e0.vr,e0.od,e0.lv⟩,?_,rfl,hle.us⟩
 intro x
 have e1:K1.ik.hold x=(K.rM r).hold x:=by show K1.holds.getD x 0=(K.rM r).holds.getD x 0;rw [hle.hd]
 rw [e1,h.wf.ry hh]
 by_cases e:x=r
 ·subst e;simp [h2]
 ·simp [e]
theorem KV.GM {K:KV} (h:K.Pos) (r:Nat):(K.rM r).Pos:=h
theorem aF.ik {w:World} {b:Nat} {K:KV} {T:List DM} {q:aA} (h:aF w b K T q) :
  ∃ q',aF (w.setCell ⟨b,7,none⟩ (.slice none 0 0)) b K.ik T q'/\∀ k,k∈q'.all b->k∈q.all b:=by
 refine ⟨{ q with tv:=.slice none 0 0 },h.Bh,?_⟩
 intro k hk
 simp only [aA.mem,Value.ownBlock] at hk ⊢
 simp at hk
 rcases hk with hk | hk | hk | hk | hk | hk | hk <;> simp [hk]
theorem FW (b r:Nat) (K:KV) (T:List DM) (q:aA) (w:World) (h:bV w b K T q) (hr:r<=4294967295) :
  Calls Tryz.prog 34 #[.pointer (some ⟨b,0,none⟩),.int .u32 r] w fun e w' =>
   ∃ (code:Int) (K':KV) (T':List DM) (q':aA),e=.returned (.int .i64 code)/\((code=3/\2<=r/\K.hold r=0/\K'=K)\/(code=0/\(2<=r->0<K.hold r)/\K.Dropped r K'))/\bV w' b K' T' q'/\af (q.all b) w w'/\Sub (q.all b) w (q'.all b):=by
 have HK:=Lib.hid h;have hhl:=h.ok.wf.ok.lp;have hhm:=h.ok.wf.ok.pm;have MJ:=h.ok.wf.ul;have hlen:=h.ok.wf.len;have hm:=h.ok.wf.hm r
 have dG:K.holds.length<=1048576:=by omega
 by_cases h2:2<=r
 ·have hd:(1:Int)<(r:Int):=by omega
  by_cases h0:K.hold r=0
  ·have H0:=Lib.hid h0
   clear h
   go_enter Tryz.func34,Tryz.ntmps34
   go_wp2_with fail;refine (zn b r K T q w HK.out.mem dG hm hr).mono ?_;rintro e w1 ⟨rfl,rfl⟩;rw [H0.out];go_wp2_with fail;go_ret;exact ⟨3,K,T,q,rfl,.inl ⟨rfl,h2,H0.out,rfl⟩,HK.out,af.refl _ _,Sub.refl _ _⟩
  ·obtain ⟨ht2,ht⟩:=h.ok.wf.ht r (by omega)
   have hl:=h.ok.wf.iZ h2 ht;obtain ⟨gh,ch,Ec,c3,ch1,fh1,PV⟩:=h.mem.qo hl.2.1;have hb:=h.mem.blk;have fb:=ax 7 hb;have c7:w.cell? ⟨b,7,none⟩=some q.tv:=ae hb rfl
   have nbh:b≠gh:=by
    rintro rfl;have e1:=h.mem.oh b (by rw [Ec];rfl);have e2:=h.mem.ob;omega
   have rF:(r:Int)<(K.holds.length:Int):=by omega
   have anc:¬ ((K.hold r:Int)=0):=by omega
   have ane:decide ((K.hold r:Int)=0)=false:=by simp;omega
   have H0:=Lib.hid (show 0<K.hold r by omega);have HQ:=Lib.hid (And.intro Ec PV);have yO:b∈q.all b:=aA.mem.2 (.inl rfl)
   have e32:((K.hold r-1:Nat):Int)=(K.hold r:Int)-1:=by omega
   have RU:=h.mem.Bg (n:=K.hold r-1) Ec hl.2.1;rw [e32] at RU;have RU:Hid (aF (w.setCell ⟨gh,r,none⟩ (.int .i32 ((K.hold r:Int)-1))) b (K.rM r) T q):=RU
   by_cases h1:K.hold r=1
   ·have H1:=Lib.hid h1
    have pX:=h.ok.wf.rM (r:=r) (by omega);rw [if_pos h1] at pX;have nU:=Lib.hid pX;rw [h1] at ch1 anc ane RU;clear h hb Ec PV pX h0 h1 e32
    go_enter Tryz.func34,Tryz.ntmps34
    go_wp2_with fail;refine (zn b r K T q w HK.out.mem dG hm hr).mono ?_;rintro e w1 ⟨rfl,rfl⟩;rw [H1.out];go_wp2_with fail;refine (xN b r (K.rM r) [] T q _ RU.out nU.out (HK.out.ti.same rfl rfl) (by simp) hr).mono ?_;rintro e w2 ⟨rfl,K1,T1,q1,hR⟩;obtain ⟨q2,m2,s2⟩:=hR.mem.ik;have fU:=hR.mem.blk;have fb2:=ax 7 fU;have c72:w2.cell? ⟨b,7,none⟩=some q1.tv:=ae fU rfl
    have HE:Hid (K.Dropped r K1.ik/\bV (w2.setCell ⟨b,7,none⟩ (.slice none 0 0)) b K1.ik T1 q2/\af (q.all b) w1 (w2.setCell ⟨b,7,none⟩ (.slice none 0 0))/\Sub (q.all b) w1 (q2.all b)):=by
     have dJ:=HK.out.ok.dropped H0.out (by simpa using hR.wf) hR.le (hR.pos (KV.GM HK.out.ok.pos r))
     have hs:Sub (q.all b) w1 (q1.all b):=by
      intro k hk
      rcases hR.sub k hk with h | h
      ·exact .inl h
      ·right;simpa [World.setCell] using h
     refine ⟨dJ.2,⟨m2,hR.ti.same rfl rfl,dJ.1⟩,?_,fun k hk=>hs k (s2 k hk)⟩;have u1:af (q.all b) w1 (w1.setCell ⟨gh,r,none⟩ (.int .i32 (1-1))):=(af.refl _ _).setCell (p:=⟨gh,r,none⟩) (.inl HQ.out.2) _;exact (u1.trans hR.up).setCell (p:=⟨b,7,none⟩) (.inl yO) _
    clear hR m2 s2 fU;go_wp2_with fail;go_ret;obtain ⟨a1,a2,a3,a4⟩:=HE.out;exact ⟨0,_,_,_,rfl,.inr ⟨rfl,fun _=>H0.out,a1⟩,a2,a3,a4⟩
   ·have pX:=h.ok.wf.rM (r:=r) (by omega)
    rw [if_neg h1] at pX;have nU:=Lib.hid pX
    have Y5:¬ ((K.hold r:Int)-1=0):=by omega
    clear h hb Ec PV pX h0 e32
    go_enter Tryz.func34,Tryz.ntmps34
    go_wp2_with fail;refine (zn b r K T q w HK.out.mem dG hm hr).mono ?_;rintro e w1 ⟨rfl,rfl⟩;go_wp2_with fail;go_ret;obtain ⟨q2,m2,s2⟩:=RU.out.ik;have dJ:=HK.out.ok.dropped H0.out nU.out (.refl _) (KV.GM HK.out.ok.pos r);exact ⟨0,_,T,q2,rfl,.inr ⟨rfl,fun _=>H0.out,dJ.2⟩,⟨m2,HK.out.ti.same rfl rfl,dJ.1⟩,((af.refl _ _).setCell (p:=⟨gh,r,none⟩) (.inl HQ.out.2) _).setCell (p:=⟨b,7,none⟩) (.inl yO) _,Sub.IY s2⟩
 ·have hd:decide ((1:Int)<(r:Int))=false:=by simp;omega
  have wP:decide (1<r)=false:=by simp;omega
  have hb:=h.mem.blk;have fb:=ax 7 hb;have c7:w.cell? ⟨b,7,none⟩=some q.tv:=ae hb rfl;have yO:b∈q.all b:=aA.mem.2 (.inl rfl);clear h hb
  go_enter Tryz.func34,Tryz.ntmps34
  go_wp2_with fail;go_ret;obtain ⟨q2,m2,s2⟩:=HK.out.mem.ik;have dJ:=HK.out.ok;refine ⟨0,K.ik,T,q2,rfl,.inr ⟨rfl,fun h=>absurd h h2,⟨⟨fun _ _ h _=>h,rfl,rfl,rfl,rfl⟩,fun x=>?_,rfl,Nat.le_refl _⟩⟩,⟨m2,HK.out.ti.same rfl rfl,⟨⟨dJ.wf.ok,dJ.wf.len,dJ.wf.ul,dJ.wf.tu,dJ.wf.ht,dJ.wf.hm,dJ.wf.eq,dJ.wf.pt,dJ.wf.cl,dJ.wf.vr,dJ.wf.vs⟩,dJ.pos,dJ.ord.same rfl rfl rfl rfl,by simp [KV.ik]⟩⟩,(af.refl _ _).setCell (p:=⟨b,7,none⟩) (.inl yO) _,Sub.IY s2⟩
  rw [if_neg (by intro e;exact h2 e.2)];rfl
end Go.Proofs.YtfkopmhpppeheaaGreat
