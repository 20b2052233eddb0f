import Derived.Test.YtfkopmhpppeheaaGreatPF30
import Derived.Test.YtfkopmhpppeheaaGreatPF29
import Derived.Test.YtfkopmhpppeheaaGreatPF31
import Derived.Test.YtfkopmhpppeheaaGreatPF19
import Derived.Test.YtfkopmhpppeheaaGreatPF7
import Derived.Test.YtfkopmhpppeheaaGreatPF18
set_option maxRecDepth 100000
set_option maxHeartbeats 6400000
namespace Go.Proofs.YtfkopmhpppeheaaGreat
open Go.RowKit Go.Maps Go.ChangeMaps Go.WideShapes
theorem tabs_add {w:World} {g i:Nat} {v:Option Value} (h:w.cell? ⟨g,i,none⟩=v):w.cell? ((⟨g,0,none⟩ : Addr).add i)=v:=by
 rw [<- h];unfold Addr.add;simp;split <;> simp_all
theorem tabs_add2 {w:World} {g i:Nat} {v:Option Value} (h:w.cell? ⟨g,i+1,none⟩=v):w.cell? (((⟨g,0,none⟩ : Addr).add i).add 1)=v:=by
 rw [<- h];unfold Addr.add;simp;split <;> simp_all
structure TabsAt (w:World) (v:Value) (L:List TV):Prop where
 ex:∃ (A:Option Addr) (c:Nat),v=.slice A L.length c/\L.length<=maxLen/\∀ i t,L[i]?=some t->∃ (x:Addr) (d:Value),A=some x/\w.cell? (x.add (i*2))=some (.int .i64 t.n)/\w.cell? ((x.add (i*2)).add 1)=some d/\TIn w [] d t
theorem TabsAt.keep0 {w w':World} {v:Value} {L:List TV} (h:TabsAt w v L) (u:Upd [] w w'):TabsAt w' v L:=by
 obtain ⟨A,c,e,hm,ha⟩:=h.ex;refine ⟨A,c,e,hm,fun i t ht=>?_⟩;obtain ⟨x,d,h1,h2,h3,h4⟩:=ha i t ht;exact ⟨x,d,h1,u.cell0 h2,u.cell0 h3,h4.keep0 u⟩
structure LayK (K:KV) (M:MV) (t:TV) (r:Nat) (code:Int) (K':KV):Prop where
 ce:code=M.ansE t
 ext:K.Ext K'
 km:KM K' (M.ans t)
 yes:code=0->Names K' r t/\∀ x,K'.hold x=K.hold x+if x=r/\2<=r then 1 else 0
 no:code≠0->∀ x,K'.hold x=K.hold x
 tr:(M.ans t).trail=[]
 hl:(M.ans t).held.length<=M.held.length+1
theorem LayK.of {K K':KV} {M:MV} {t:TV} {r:Nat} {code:Int} (h:KM K M) (hk:K.Ok) (hu:K.Uni) (hk':K'.Ok) (hu':K'.Uni) (ht:t.Ok) (htn:t.n=K.vars) (hl:M.held.length+1<=65536) (hb:∀ x,K.hold x<65000) (h1:M.trail=[]) (h2:K'.trail=[])
  (L:LayR K (K.SubN t.fn) t.fn r code K'):LayK K M t r code K':=by
 have hn:=h.n16
 have hh:¬ 65535<=M.holds t:=by
  by_cases hr:∃ s,Names K s t
  ·obtain ⟨s,hs⟩:=hr
   rw [h.agr.holds hk hu ht htn hs];have:=hb s;omega
  ·rw [h.agr.holds0 fun s hs=>hr ⟨s,hs⟩];omega
 rcases L with ⟨rfl,e,t1,d,hd,_⟩ | ⟨rfl,rfl,e,e',hd,hno⟩
 ·have hr:Names K' r t:=⟨t1,d⟩
  obtain ⟨_,a2⟩:=h.agr.step hk hu hk' hu' hn ht htn e hr hd;have hf:=h.agr.fits_yes hk hk' hu' hn ht htn e hr hd
  have hE:M.ansE t=0:=by unfold MV.ansE;rw [if_neg hh,if_pos hf]
  have hA:M.ans t={ M.hold1 t with trail:=[] }:=by unfold MV.ans;rw [if_pos hE]
  refine ⟨hE.symm,e,?_,fun _=>⟨hr,hd⟩,fun hc=>absurd rfl hc,by rw [hA],?_⟩
  ·rw [hA]
   exact ⟨a2.retrail [],(h.fit.hold1 hl ht (htn.trans h.agr.same.n.symm)).retrail [],h2,MV.TrFit.nil rfl⟩
  ·rw [hA];exact MV.hold1_len M t
 ·have hf:=h.agr.fits_no hk hn ht htn hno
  have hE:M.ansE t=9:=by unfold MV.ansE;rw [if_neg hh,if_neg (by rw [hf];simp)]
  have hA:M.ans t=M:=by unfold MV.ans;rw [if_neg (by rw [hE];decide)]
  refine ⟨hE.symm,e,?_,fun hc=>absurd hc (by decide),fun _=>hd,by rw [hA];exact h1,by rw [hA];omega⟩;rw [hA];exact ⟨h.agr.same_kernel hk e hd,h.fit,h2.trans h1.symm,h.tf⟩
theorem PLog.ext {K K':KV} {M M':MV} {refs:List Nat} {tabs:List TV} (l:PLog K M refs tabs) (hk:K.Ok) (e:K.Ext K') (h:KM K' M'):PLog K' M' refs tabs :=
 ⟨h,l.lr,l.rb,fun t ht=>by rw [e.vr];exact l.ok t ht,fun i r t h1 h2=>(l.nm i r t h1 h2).ext hk e⟩
theorem PLog.push {K:KV} {M:MV} {refs:List Nat} {tabs:List TV} {r:Nat} {t:TV} (l:PLog K M refs tabs) (hr:refs.length<40) (ht:t.Ok) (htn:t.n=K.vars) (hn:Names K r t):PLog K M (refs++[r]) (tabs++[t]):=by
 refine ⟨l.km,by simp [l.lr],by simp;omega,fun u hu=>?_,fun i s u h1 h2=>?_⟩
 ·rcases List.mem_append.1 hu with h | h
  ·exact l.ok u h
  ·simp at h;subst h;exact ⟨ht,htn⟩
 ·have hl:=l.lr
  by_cases hi:i<refs.length
  ·rw [List.getElem?_append_left hi] at h1
   rw [List.getElem?_append_left (by omega)] at h2;exact l.nm i s u h1 h2
  ·rw [List.getElem?_append_right (by omega)] at h1
   rw [List.getElem?_append_right (by omega)] at h2
   have:i=refs.length:=by
    have h3:=(List.getElem?_eq_some_iff.1 h1).1
    simp at h3;omega
   subst this;rw [hl] at h2
   simp at h1 h2;subst h1 h2
   exact hn
theorem PCnt.push {K K':KV} {refs:List Nat} {r:Nat} (h:PCnt K refs) (hd:∀ x,K'.hold x=K.hold x+if x=r/\2<=r then 1 else 0):PCnt K' (refs++[r]):=fun x hx=>by
 rw [hd,h x hx,List.count_append,List.count_singleton]
 by_cases e:x=r
 ·subst e;simp [hx]
 ·have:¬ r=x:=fun h=>e h.symm
  simp [e,this]
theorem PLog.stay {K K':KV} {M M':MV} {refs:List Nat} {tabs:List TV} (l:PLog K M refs tabs) (c:PCnt K refs) (hk':K'.Ok) (s:Stay K K') (h:KM K' M'):PLog K' M' refs tabs/\PCnt K' refs:=by
 refine ⟨⟨h,l.lr,l.rb,fun t ht=>by rw [s.vr];exact l.ok t ht,fun i r t h1 h2=>?_⟩,fun x hx=>by rw [s.hd];exact c x hx⟩;have hn:=l.nm i r t h1 h2
 have hr:0<K.hold r\/r<2:=by
  by_cases h2:r<2
  ·exact .inr h2
  ·rw [c r (by omega)]
   exact .inl (List.count_pos_iff.2 (List.mem_of_getElem? h1))
 refine ⟨?_,fun y=>by rw [s.den r hr];exact hn.2 y⟩
 rcases hr with hr | hr
 ·exact (hk'.wf.ht r (by rw [s.hd];exact hr)).2
 ·exact hk'.tk_const hr
def begStep (s:MV × List TV) (t:TV):MV × List TV:=if s.1.ansE t=0 then (s.1.ans t,s.2++[t]) else s
def begM (n c:Nat) (L:List TV):MV × List TV:=L.foldl begStep (MV.new n c,[])
theorem begM_succ {n c i:Nat} {L:List TV} {t:TV} (h:L[i]?=some t):begM n c (L.take (i+1))=begStep (begM n c (L.take i)) t:=by
 unfold begM;rw [List.take_add_one,h];simp
theorem begStep_fst (s:MV × List TV) (t:TV):(begStep s t).1=s.1.ans t:=by
 unfold begStep
 by_cases h:s.1.ansE t=0
 ·rw [if_pos h]
 ·rw [if_neg h];unfold MV.ans;rw [if_neg h]
theorem begStep_snd (s:MV × List TV) (t:TV):(begStep s t).2=if s.1.ansE t=0 then s.2++[t] else s.2:=by
 unfold begStep;split <;> rfl
def MV.exchs (M:MV) (l:List Int):MV:=l.foldl MV.exch M
theorem MV.exchs_succ {M:MV} {i:Nat} {L:List Int} (h:i<L.length):M.exchs (L.take (i+1))=(M.exchs (L.take i)).exch (L.getD i 0):=by
 unfold MV.exchs;rw [List.take_add_one,List.getElem?_eq_getElem h,List.getD_eq_getElem?_getD,List.getElem?_eq_getElem h,List.foldl_append];rfl
theorem MV.exch_trail (M:MV) (l:Int):(M.exch l).trail.length<=M.trail.length+1/\(M.exch l).held=M.held:=by
 unfold MV.exch;split
 ·simp
 ·exact ⟨by omega,rfl⟩
theorem PIn.start {w w1 w2:World} {n0 b m n c:Nat} {T:List DM} {q:KPtr} {p:MPtr} (hn:n0<=w.heap.size) (hk:KerIn w1 b (KV.new n c) T q) (u1:Upd [] w w1) (s1:Sub [] w (q.all b))
  (hm:ModIn w2 m (MV.new n c) p (p.all m)) (u2:Upd [] w1 w2) (s2:Sub [] w1 (p.all m)) :
  PIn (w2.alloc (.cells #[.pointer (some ⟨b,0,none⟩),.pointer (some ⟨m,0,none⟩),.slice none 0 0,.slice none 0 0] 44 (0,0))) n0 w2.heap.size b m (.slice none 0 0) (.slice none 0 0) (KV.new n c) (q.all b) (MV.new n c) p [] []:=by
 have ua:Upd [] w2 (w2.alloc (.cells #[.pointer (some ⟨b,0,none⟩),.pointer (some ⟨m,0,none⟩),.slice none 0 0,.slice none 0 0] 44 (0,0))):=(Upd.refl _ _).alloc _
 have k1:∀ k,k∈q.all b->w.heap.size<=k/\k<w1.heap.size:=fun k hk'=>⟨(s1 k hk').resolve_left (by simp),hk.mem.lt k hk'⟩
 have k2:∀ k,k∈p.all m->w1.heap.size<=k/\k<w2.heap.size:=fun k hk'=>⟨(s2 k hk').resolve_left (by simp),hm.lt k hk'⟩
 have h1:=u1.size;have h2:=u2.size;refine ⟨heap_alloc_new _ _,⟨⟨T,q,hk.upd (u2.trans ua) (by simp),rfl⟩,?_,fun k a1 a2=>?_,World.ownsRow_nil _ _ _ _,fun k hk'=>by simp [Value.ownBlock] at hk',TLs.nil _ _ _⟩,⟨fun h=>?_,fun h=>?_⟩,fun k hk'=>?_,?_⟩
 ·have hm':=hm.keep0 ua
  obtain ⟨cs,q1,q2,_⟩:=hm'.hs.ex;exact ⟨hm'.blk,hm'.os,⟨cs,q1,q2,fun i t c h=>by simp [MV.new] at h⟩,hm'.ts,hm'.ne,fun k hk'=>List.mem_append.2 (.inr hk')⟩
 ·have:=k1 k a1;have:=k2 k a2;omega
 ·have:=k1 _ h;omega
 ·have:=k2 _ h;omega
 ·rcases hk' with h | h | h | h | h
  ·have:=k1 k h;omega
  ·have:=k2 k h;omega
  ·omega
  ·simp [Value.ownBlock] at h
  ·simp [Value.ownBlock] at h
 ·have:=ua.size;omega
theorem PIn.model3 {w w1:World} {n0 a b m:Nat} {rv tv:Value} {K:KV} {F:List Nat} {M M':MV} {p:MPtr} {refs:List Nat} {tabs:List TV} (h:PIn w n0 a b m rv tv K F M p refs tabs) (e:ModE m p (F++p.all m) M' w w1) :
  ∃ p',PIn w1 n0 a b m rv tv K F M' p' refs tabs/\Fro n0 w w1/\Upd (p.all m) w w1/\∀ c t,TIn w (F++p.all m) c t->TIn w1 (F++p'.all m) c t:=by
 have hbl:=h.bl;obtain ⟨p',hm,u,s⟩:=h.mem.model e;refine ⟨p',⟨by rw [u.block a (heap_lt h.blk) h.na.2];exact h.blk,hm,⟨h.na.1,fun hm=>?_⟩,fun k hk=>?_,Nat.le_trans h.bl u.size⟩,Fro.of u fun k hk=>h.lo k (.inr (.inl hk)),u,fun c t ht=>ht.step u s⟩
 ·rcases s a hm with h1 | h1
  ·exact h.na.2 h1
  ·have:=heap_lt h.blk;omega
 ·rcases hk with hk | hk | hk
  ·exact h.lo k (.inl hk)
  ·rcases s k hk with h1 | h1
   ·exact h.lo k (.inr (.inl h1))
   ·omega
  ·exact h.lo k (.inr (.inr hk))
theorem ans_cells {w7 w x:World} {B:Nat} {S:List Nat} {u v:Value} (hB:B∉S/\B<w7.heap.size) (h1:Upd [] w7 w) (h2:Upd S w x) (b0:w7.cell? ⟨B,0,none⟩=some u) (b1:w7.cell? ⟨B,1,none⟩=some v):x.cell? ⟨B,0,none⟩=some u/\x.cell? ⟨B,1,none⟩=some v :=
 have hb:=Nat.lt_of_lt_of_le hB.2 h1.size
 ⟨(h2.cell hb hB.1).trans (h1.cell0 b0),(h2.cell hb hB.1).trans (h1.cell0 b1)⟩
structure BegQ (n c:Nat) (L:List TV) (Ls:List Int) (w:World) (e:Ending) (w':World):Prop where
 ex:∃ (a b m:Nat) (rv tv:Value) (K:KV) (F:List Nat) (p:MPtr) (refs:List Nat),e=.returned (.tuple #[.pointer (some ⟨a,0,none⟩),.bool true]) /\
  PIn w' (w.heap.size+1) a b m rv tv K F ((begM n c L).1.exchs Ls) p refs (begM n c L).2/\PLog K ((begM n c L).1.exchs Ls) refs (begM n c L).2/\PCnt K refs/\K.vars=n/\((begM n c L).1.exchs Ls).held.length<=40/\((begM n c L).1.exchs Ls).trail.length<=Ls.length/\Upd [] w w'
theorem begin_spec (n c:Nat) (lv:Value) (L:List TV) (la:Option Addr) (ln lc:Nat) (Ls:List Int) (w:World) (hn:1<=n/\n<=8) (hc:2<=c/\c<=1048576) (hL:TabsAt w lv L) (hl:L.length<=40) (hok:∀ t,t∈L->t.Ok/\t.n=n) (hS:RowOf w .i64 la ln Ls) (hls:ln<=200) :
  Calls Tryz.prog 16 #[.agg #[.int .i64 n,.int .i64 c,lv,.slice la ln lc]] w fun e w'=>BegQ n c L Ls w e w':=by
 obtain ⟨A,cp,rfl,hmx,_⟩:=hL.ex;obtain ⟨N,hN⟩ : ∃ N,L.length=N:=⟨_,rfl⟩;have HN:=Lib.hid hN;have HL:=Lib.hid hL;have HS:=Lib.hid hS;have HOK:=Lib.hid hok;rw [hN] at hl hmx ⊢;have HB:=Lib.hid (heap_alloc_new w (.cells #[.int .i64 n,.int .i64 c,.slice A N cp,.slice la ln lc] 25 (0,0)));obtain ⟨w0,hw0⟩ : ∃ w0,w.alloc (.cells #[.int .i64 n,.int .i64 c,.slice A N cp,.slice la ln lc] 25 (0,0))=w0:=⟨_,rfl⟩
 have hu0:Upd [] w w0:=by rw [<- hw0];exact (Upd.refl _ _).alloc _
 have hz0:w0.heap.size=w.heap.size+1:=by rw [<- hw0,World.size_alloc]
 rw [hw0] at HB;have HU0:=Lib.hid hu0;have HZ0:=Lib.hid hz0;have HW0:=Lib.hid hw0
 have HCL:Hid (∀ z,Upd [] w0 z->z.cell? ⟨w.heap.size,0,none⟩=some (.int .i64 n)/\z.cell? ⟨w.heap.size,1,none⟩=some (.int .i64 c)/\z.cell? ⟨w.heap.size,2,none⟩=some (.slice A N cp)/\z.cell? ⟨w.heap.size,3,none⟩=some (.slice la ln lc)):=fun z u=>by
  have hb:=(u.block _ (by rw [hz0];omega) (by simp)).trans HB.out;exact ⟨cell_at hb rfl,cell_at hb rfl,cell_at hb rfl,cell_at hb rfl⟩
 obtain ⟨hn1,hn8⟩:=hn;obtain ⟨hc2,hcm⟩:=hc;clear hL hS hok hw0 hu0 hz0 hN
 go_enter Tryz.func16,Tryz.ntmps16
 go_wp2_with fail;rw [HW0.out];obtain ⟨x0,x1,_,_⟩:=HCL.out _ (Upd.refl _ _);go_wp2_with fail;refine (knew_spec n c _ hn1 (by omega) hc2 hcm).mono ?_;rintro e w1 ⟨b,T,q,rfl,hK1,hu1,hs1⟩;have HK1:=Lib.hid (And.intro hK1 (And.intro hu1 hs1));obtain ⟨y0,y1,_,_⟩:=HCL.out _ hu1;clear hK1 hu1 hs1 x0 x1;go_wp2_with fail;refine (newmodel_spec n c _ (by omega) hcm).mono ?_;rintro e w2 hE;obtain ⟨m,p,rfl,_,hM,hu2,hs2⟩:=hE.ex;have HST:=Lib.hid (PIn.start (n0:=w0.heap.size) (Nat.le_refl _) HK1.out.1 HK1.out.2.1 HK1.out.2.2 hM hu2 hs2);have HU2:=Lib.hid (HK1.out.2.1.trans hu2);clear hE hM hu2 hs2 y0 y1;obtain ⟨_,_,z2,_⟩:=HCL.out (w2.alloc (.cells #[.pointer (some ⟨b,0,none⟩),.pointer (some ⟨m,0,none⟩),.slice none 0 0,.slice none 0 0] 44 (0,0))) (HU2.out.trans ((Upd.refl _ _).alloc _));go_wp2_with fail;obtain ⟨wS,hwS⟩ : ∃ wS,w2.alloc (.cells #[.pointer (some ⟨b,0,none⟩),.pointer (some ⟨m,0,none⟩),.slice none 0 0,.slice none 0 0] 44 (0,0))=wS:=⟨_,rfl⟩;obtain ⟨a,ha⟩ : ∃ a,w2.heap.size=a:=⟨_,rfl⟩
 have hus:Upd [] w0 wS:=by rw [<- hwS];exact HU2.out.trans ((Upd.refl _ _).alloc _)
 rw [hwS,ha] at HST;have HUS:=Lib.hid hus
 have HCS:Hid (∀ z,Fro w0.heap.size wS z->(z.cell? ⟨w.heap.size,2,none⟩=some (.slice A N cp)/\z.cell? ⟨w.heap.size,3,none⟩=some (.slice la ln lc))/\Upd [] w0 z):=fun z f=>by
  obtain ⟨_,_,h2,h3⟩:=HCL.out wS hus
  have hlt:w.heap.size<w0.heap.size:=by rw [HZ0.out];omega
  exact ⟨⟨f.cell h2 hlt,f.cell h3 hlt⟩,f.upd hus (Nat.le_refl _)⟩
 have HI0:Hid (PLog (KV.new n c) (MV.new n c) [] []/\PCnt (KV.new n c) []/\(KV.new n c).vars=n):=by
  exact ⟨⟨⟨Agr.new hn1 (by omega) hc2 hcm,.new hn8 hcm,rfl,MV.TrFit.nil rfl⟩,rfl,by simp,by simp,by simp⟩,fun x _=>by simp [KV.hold,KV.new],rfl⟩
 try rw [hwS]
 try rw [ha]
 clear hus z2 hwS ha HK1
 go_loopg [39] N (fun g s39 wr=>∃ (i:Nat) (rv tv:Value) (K:KV) (F:List Nat) (M:MV) (p:MPtr) (refs:List Nat) (tabs:List TV),N-i=g/\i<=N/\s39=.int .i64 i/\PIn wr w0.heap.size a b m rv tv K F M p refs tabs/\PLog K M refs tabs/\PCnt K refs/\K.vars=n /\
  refs.length<=i/\M.held.length<=i/\M.trail=[]/\Hid ((M,tabs)=begM n c (L.take i))/\Fro w0.heap.size wS wr)
 case atStart=>exact ⟨0,_,_,_,_,_,_,_,_,by omega,by omega,rfl,HST.out,HI0.out.1,HI0.out.2.1,HI0.out.2.2,by simp,by simp [MV.new],rfl,Lib.hid (by simp [begM]),Fro.refl _ _⟩
 case round =>
  obtain ⟨i,rv,tv,K,F,M,p,refs,tabs,rfl,hi,rfl,hPI,hLG,hPC,hvr,hrl,hhl,htr,HBM,hF⟩:=hrel;obtain ⟨⟨z2,z3⟩,huw⟩:=HCS.out _ hF
  by_cases hlt:i<N
  ·obtain ⟨t,ht⟩ : ∃ t,L[i]?=some t:=⟨_,List.getElem?_eq_getElem (by have:=HN.out;omega)⟩
   obtain ⟨A',cp',e1,_,hat⟩:=(HL.out.keep0 (HU0.out.trans huw)).ex
   injection e1 with e1 _ e1c
   subst e1 e1c;obtain ⟨x,d,rfl,c0,c1,hT⟩:=hat i t ht;obtain ⟨ta,tc,rfl,_⟩:=row_nil_len hT.row;obtain ⟨tok,ttn⟩:=HOK.out t (List.mem_of_getElem? ht)
   have hil:(i:Int)<(N:Int):=by omega
   have hTlt:∀ k,(Value.slice ta t.ws.length tc).ownBlock=some k->k<w0.heap.size:=fun k hk=>by
    obtain ⟨A2,cp2,e2,_,hat2⟩:=(HL.out.keep0 HU0.out).ex
    injection e2 with e2 _ _
    subst e2;obtain ⟨x2,d2,e3,_,q2,hT2⟩:=hat2 i t ht
    injection e3 with e3
    subst e3;have h3:=huw.cell0 q2;rw [c1] at h3
    injection h3 with h3
    subst h3;exact (hT2.row.lt k hk).2
   have hTZ:TIn wr (F++p.all m) (.slice ta t.ws.length tc) t:=⟨tok,hT.row,fun k hk hm=>by
    have h1:=hTlt k hk;have h2:=hPI.lo k (by rcases List.mem_append.1 hm with h | h;exact .inl h;exact .inr (.inl h))
    omega⟩
   have hbx:=heap_alloc_new wr (.cells #[.int .i64 n,.slice ta t.ws.length tc] 122 (0,0));have hu6:Upd [] wr (wr.alloc (.cells #[.int .i64 n,.slice ta t.ws.length tc] 122 (0,0))):=(Upd.refl _ _).alloc _;obtain ⟨W,hW⟩ : ∃ W,t.ws.length=W:=⟨_,rfl⟩;have HWL:=Lib.hid hW;rw [ttn] at c0;rw [hW,Addr.add_succ' _ 0] at c1;rw [hW] at hbx hu6
   simp only [Nat.zero_add] at c1
   obtain ⟨w6,hw6⟩ : ∃ w6,wr.alloc (.cells #[.int .i64 n,.slice ta W tc] 122 (0,0))=w6:=⟨_,rfl⟩;rw [hw6] at hbx hu6;have HW6:=Lib.hid hw6
   have HPM:Hid (∀ k,k∈p.all m->k<wr.heap.size):=fun k hk=>hPI.mem.mod.lt k hk
   have HTZ:=Lib.hid (hTZ.keep0 hu6);have hPI6:=hPI.keep0 hu6;have hmk:=make11_spec b K.vars K F F (K.SubN t.fn) (.slice ta t.ws.length tc) t 0 w6 hPI6.mem.ker (fun k hk=>hPI6.mem.ker.lt k hk) (fun _ h=>h) HTZ.out.less (ttn.trans hvr.symm) (by omega) (by omega) (fun y=>by have:=hPC.le hPI.mem.ker.ok y;omega) (fun _ h=>h);unfold tabV at hmk;rw [ttn,hW] at hmk;have HMK:=Lib.hid hmk;have hwB:wr.heap.size<w6.heap.size:=heap_lt hbx;have HB6:=Lib.hid hwB
   have HXB:Hid (∀ z,Upd F w6 z->z.cell? ⟨wr.heap.size,0,none⟩=some (.int .i64 n)/\z.cell? ⟨wr.heap.size,1,none⟩=some (.slice ta W tc)):=fun z u=>by
    have hnF:wr.heap.size∉F:=fun hm=>by have:=hPI.mem.ker.lt _ hm;omega
    have hb:=(u.block _ hwB hnF).trans hbx;exact ⟨cell_at hb rfl,cell_at hb rfl⟩
   have HX:=Lib.hid (And.intro hPI6 (And.intro hLG (And.intro hPC (And.intro hvr (And.intro htr (hF.trans (Fro.of0 hu6)))))));have HT:=Lib.hid (And.intro tok (And.intro ttn ht));obtain ⟨b0,b1⟩:=HXB.out w6 (Upd.refl _ _);clear hPI hLG hPC hvr htr hF huw hat hT hTlt hTZ hu6 hw6 hPI6 hmk hbx hW ht tok ttn z2 z3 hwB;go_wp2_with fail;rw [HW6.out];go_wp2_with fail;refine HMK.out.mono ?_;rintro e w7 hE;obtain ⟨r,code,K7,F7,rfl,hR,hK7,hu7,hs7,htr7⟩:=hE.ex;have HK7:=Lib.hid (LayK.of HX.out.2.1.km HX.out.1.mem.ker.ok HX.out.1.mem.ker.uni hK7.ok hK7.uni HT.out.1 (HT.out.2.1.trans HX.out.2.2.2.1.symm) (by omega) (fun y=>by have:=HX.out.2.2.1.le HX.out.1.mem.ker.ok y;omega) HX.out.2.2.2.2.1 (htr7 (HX.out.2.1.km.tr.trans HX.out.2.2.2.2.1)) hR);obtain ⟨hP7,hF7⟩:=HX.out.1.kernel hK7 hu7 hs7
   have HTZ7:Hid (TIn w7 (F7++p.all m) (.slice ta t.ws.length tc) t):=⟨HT.out.1,(HTZ.out.keep hu7 (fun k hk=>.inl (List.mem_append.2 (.inl hk)))).row,(HTZ.out.apart (Z':=F7++p.all m) fun k hk=>by
    rcases List.mem_append.1 hk with h | h
    ·exact (hs7 k h).imp (fun h=>List.mem_append.2 (.inl h)) id
    ·exact .inl (List.mem_append.2 (.inr h))).fr⟩
   have HXB7:Hid (∀ z,Upd [] w7 z->z.cell? ⟨wr.heap.size,0,none⟩=some (.int .i64 n)/\z.cell? ⟨wr.heap.size,1,none⟩=some (.slice ta W tc)):=fun z u=>HXB.out z (hu7.trans (u.mono (by simp)))
   have HQ7:=Lib.hid (And.intro hP7 (And.intro (HX.out.2.2.2.2.2.trans hF7) (HX.out.2.2.2.1.symm ▸ HK7.out.ext.vr)));obtain ⟨_,k1,_,_⟩:=hP7.cells;obtain ⟨b0,b1⟩:=HXB7.out w7 (Upd.refl _ _)
   have HAN:Hid (∀ z,Upd [] w7 z->Calls Tryz.prog 62 #[.pointer (some ⟨m,0,none⟩),.agg #[.int .i64 n,.slice ta W tc]] z fun e w'=>e=.returned (.int .i64 code)/\ModE m p (F7++p.all m) (M.ans t) z w'):=fun z u=>by
    have hz:=HQ7.out.1.keep0 u
    have h1:=answer9_spec m M p (F7++p.all m) (.slice ta t.ws.length tc) t z hz.mem.mod hz.mem.z HX.out.2.1.km.fit (HTZ7.out.keep0 u) (by rw [HT.out.2.1,HX.out.2.1.km.agr.same.n,HX.out.2.2.2.1]) (fun v hv=>by
     obtain ⟨_,_,s,_,_,h2,_⟩:=HX.out.2.1.km.agr.hl v.1 v.2 hv;have h3:=HX.out.2.2.1.le HX.out.1.mem.ker.ok s
     omega)
    unfold tabV at h1;rw [HT.out.2.1,HWL.out,<- HK7.out.ce] at h1;exact h1
   have hc09:code=0\/code=9:=by
    rcases hR with ⟨h,_⟩ | ⟨h,_⟩
    ·exact .inl h
    ·exact .inr h
   have HC09:=Lib.hid hc09;have HNB:Hid (wr.heap.size∉p.all m/\wr.heap.size<w7.heap.size):=⟨fun hm=>by have h1:=HPM.out _ hm;omega,Nat.lt_of_lt_of_le HB6.out hu7.size⟩;clear hE hR hK7 hu7 hs7 htr7 hP7 hF7 HMK hc09;go_wp2_with fail
   go_region_held3 (fun z=>z.cell? ⟨a,1,none⟩=some (.pointer (some ⟨m,0,none⟩))/\z.cell? ⟨wr.heap.size,0,none⟩=some (.int .i64 n)/\z.cell? ⟨wr.heap.size,1,none⟩=some (.slice ta W tc)) (first | exact ⟨k1,b0,b1⟩ | exact HQ8.out.1) (first
    | (go_at_call 62;refine (HAN.out _ (Upd.refl _ _).drew).mono ?_;rintro e w8 ⟨rfl,hm⟩;obtain ⟨p',hP8,hF8,hu8,hT8⟩:=(HQ7.out.1.keep0 (Upd.refl [] w7).drew).model3 hm;have HQ8:=Lib.hid (And.intro (And.intro hP8.cells.2.1 (ans_cells HNB.out ((Upd.refl [] w7).drew) hu8 b0 b1)) (And.intro hP8 (And.intro ((Fro.of0 (Upd.refl [] w7).drew).trans hF8) hT8)));clear hm hP8 hF8 hu8 hT8))
   obtain ⟨k18,b08,b18⟩:=HQ8.out.1
   rcases HC09.out with rfl | rfl
   ·have hE0:M.ansE t=0:=HK7.out.ce.symm
    have hTK:=took_spec w0.heap.size a b m rv tv K7 F7 (M.ans t) p' refs tabs r (.slice ta t.ws.length tc) t w8 HQ8.out.2.1 (HX.out.2.1.ext HX.out.1.mem.ker.ok HK7.out.ext HK7.out.km) (HQ8.out.2.2.2 _ _ (HTZ7.out.keep0 (Upd.refl _ _).drew)) (HT.out.2.1.trans HQ7.out.2.2.symm) (HK7.out.yes rfl).1;unfold tabV at hTK;rw [HT.out.2.1,HWL.out] at hTK;have HTK:=Lib.hid hTK;have HE0:=Lib.hid hE0;clear hTK hE0;go_wp2_with fail;refine HTK.out.mono ?_;rintro e w9 hE;obtain ⟨rv',tv',rfl,hP9,hF9⟩:=hE.ex;have HQ9:=Lib.hid (And.intro hP9 hF9);clear hE hP9 hF9;go_wp2_with fail
    go_roundg (N-(i+1))
    case measure=>omega
    case rel =>
     refine ⟨i+1,rv',tv',K7,F7,M.ans t,p',refs++[r],tabs++[t],rfl,by omega,by simp,HQ9.out.1,?_,HX.out.2.2.1.push (HK7.out.yes rfl).2,HQ7.out.2.2,by simp;omega,by have:=HK7.out.hl;omega,HK7.out.tr,Lib.hid ?_,(HQ7.out.2.1.trans HQ8.out.2.2.1).trans HQ9.out.2⟩
     ·exact (HX.out.2.1.ext HX.out.1.mem.ker.ok HK7.out.ext HK7.out.km).push (by omega) HT.out.1 (HT.out.2.1.trans HQ7.out.2.2.symm) (HK7.out.yes rfl).1
     ·rw [begM_succ HT.out.2.2,<- HBM.out]
      exact Prod.ext (by rw [begStep_fst]) (by rw [begStep_snd,if_pos HE0.out])
   ·have hE9:M.ansE t≠0:=fun h=>by have:=HK7.out.ce;omega
    have HE9:=Lib.hid hE9;clear hE9;go_wp2_with fail
    go_roundg (N-(i+1))
    case measure=>omega
    case rel =>
     refine ⟨i+1,rv,tv,K7,F7,M.ans t,p',refs,tabs,rfl,by omega,by simp,HQ8.out.2.1,HX.out.2.1.ext HX.out.1.mem.ker.ok HK7.out.ext HK7.out.km,fun x hx=>by rw [HK7.out.no (by decide)];exact HX.out.2.2.1 x hx,HQ7.out.2.2,by omega,by have:=HK7.out.hl;omega,HK7.out.tr,Lib.hid ?_,HQ7.out.2.1.trans HQ8.out.2.2.1⟩;rw [begM_succ HT.out.2.2,<- HBM.out];exact Prod.ext (by rw [begStep_fst]) (by rw [begStep_snd,if_neg HE9.out])
  ·obtain rfl:i=N:=by omega
   have hil:¬ ((i:Int)<(i:Int)):=by omega
   have hBM:(M,tabs)=begM n c L:=by
    have h1:=HBM.out;rw [<- HN.out,List.take_length] at h1;exact h1
   have HBE:=Lib.hid hBM;have HX:=Lib.hid (And.intro hPI (And.intro hLG (And.intro hPC (And.intro hvr (And.intro htr hF)))));clear hPI hLG hPC hvr htr hF huw hBM HBM;go_wp2_with fail
   go_loopg [73] ln (fun g s73 wx=>∃ (j:Nat) (K2:KV) (F2:List Nat) (M2:MV) (p2:MPtr),ln-j=g/\j<=ln/\s73=.int .i64 j/\PIn wx w0.heap.size a b m rv tv K2 F2 M2 p2 refs tabs/\PLog K2 M2 refs tabs/\PCnt K2 refs/\K2.vars=n /\
    M2.held.length<=40/\M2.trail.length<=j/\Hid (M2=M.exchs (Ls.take j))/\Fro w0.heap.size wS wx)
   case atStart=>exact ⟨0,K,F,M,p,by omega,by omega,rfl,HX.out.1,HX.out.2.1,HX.out.2.2.1,HX.out.2.2.2.1,by omega,by rw [HX.out.2.2.2.2.1];simp,Lib.hid (by simp [MV.exchs]),HX.out.2.2.2.2.2⟩
   case round =>
    obtain ⟨j,K2,F2,M2,p2,rfl,hj,rfl,hPI,hLG,hPC,hvr,hh2,htl,HEX,hF⟩:=hrel;obtain ⟨_,huw⟩:=HCS.out _ hF
    by_cases hjt:j<ln
    ·obtain ⟨y,hy,hcy⟩:=HS.out.at_ j hjt
     subst hy;have hcr:=(HU0.out.trans huw).cell0 hcy
     have hjl:(j:Int)<(ln:Int):=by omega
     have HLJ:Hid (Ls.getD j 0=Ls.getD j 0/\j<Ls.length):=⟨rfl,by rw [HS.out.len];exact hjt⟩;have HSU:Hid ((M.exchs (Ls.take j)).exch (Ls.getD j 0)=M.exchs (Ls.take (j+1))):=(MV.exchs_succ (by rw [HS.out.len];exact hjt)).symm;clear hcy HLJ;generalize Ls.getD j 0=l at *;have HKX:=Lib.hid (exch_km b l K2 F2 M2 wr.drew (hPI.mem.ker.upd (Upd.refl [] wr).drew (by simp)) hLG.km (by omega));obtain ⟨E,hEE⟩ : ∃ E,M2.exchE l=E:=⟨_,rfl⟩;rw [hEE] at HKX;have HEE:=Lib.hid hEE;obtain ⟨_,k1,_,_⟩:=hPI.cells;have HX2:=Lib.hid (And.intro hPI (And.intro hLG (And.intro hPC (And.intro hvr hF))))
     have hzz:∀ x y:Int,(x == x)=true:=fun x _=>by simp
     clear hPI hLG hPC hvr hF huw hEE;go_wp2_with fail
     go_region_held3 (fun x=>x.cell? ⟨a,1,none⟩=some (.pointer (some ⟨m,0,none⟩))) (first | exact k1 | exact HQ.out.2.2.1 | exact HQ2.out.1) (first
      | (go_at_call 29;refine HKX.out.mono ?_;rintro e w5 ⟨rfl,hk⟩;obtain ⟨K',F',hK',hkm,hst,hu,hs⟩:=hk.ex;obtain ⟨hP5,hF5⟩:=(HX2.out.1.keep0 (Upd.refl [] wr).drew).kernel hK' hu hs;have HQ:=Lib.hid (And.intro hP5 (And.intro ((Fro.of0 (Upd.refl [] wr).drew).trans hF5) (And.intro hP5.cells.2.1 (And.intro hkm hst))));clear hk hK' hkm hst hu hs hP5 hF5)
      | (go_at_call 64;refine (exch9_spec m M2 p2 (F'++p2.all m) l _ HQ.out.1.mem.mod HQ.out.1.mem.z HX2.out.2.1.km.fit (HX2.out.2.1.km.len HX2.out.1.mem.ker.ok) (by omega)).mono ?_;rintro e w6 hE;obtain ⟨rfl,hm⟩:=hE.ex;rw [HEE.out];obtain ⟨p',hP6,hF6,_,_⟩:=HQ.out.1.model3 hm;have HQ2:=Lib.hid (And.intro hP6.cells.2.1 (And.intro hP6 hF6));clear hE hm hP6 hF6))
     go_wp2_with fail
     go_roundg (ln-(j+1))
     case measure=>omega
     case rel =>
      obtain ⟨l1,l2⟩:=HX2.out.2.1.stay HX2.out.2.2.1 HQ.out.1.mem.ker.ok HQ.out.2.2.2.2 HQ.out.2.2.2.1;obtain ⟨e1,e2⟩:=MV.exch_trail M2 l;exact ⟨j+1,K',F',M2.exch l,p',rfl,by omega,by simp,HQ2.out.2.1,l1,l2,HQ.out.2.2.2.2.vr.trans HX2.out.2.2.2.1,by rw [e2];exact hh2,by omega,Lib.hid (by rw [<- HSU.out,<- HEX.out]),(HX2.out.2.2.2.2.trans HQ.out.2.1).trans HQ2.out.2.2⟩
    ·obtain rfl:j=ln:=by omega
     have hjl:¬ ((j:Int)<(j:Int)):=by omega
     have hME:M2=(begM n c L).1.exchs Ls:=by
      have h1:=HEX.out;rw [<- HS.out.len,List.take_length] at h1;rw [h1,<- HBE.out]
     have hTB:tabs=(begM n c L).2:=by rw [<- HBE.out]
     have HFIN:Hid (BegQ n c L Ls w (.returned (.tuple #[.pointer (some ⟨a,0,none⟩),.bool true])) wr):=by
      refine ⟨a,b,m,rv,tv,K2,F2,p2,refs,rfl,?_,?_,hPC,hvr,?_,?_,HU0.out.trans huw⟩
      ·rw [<- hME,<- hTB,<- HZ0.out];exact hPI
      ·rw [<- hME,<- hTB];exact hLG
      ·rw [<- hME];exact hh2
      ·rw [<- hME,HS.out.len];exact htl
     clear hPI hLG hPC hvr hF huw hME hTB;go_wp2_with fail;go_ret2;exact HFIN.out
theorem ch3 {x:World} {B:Nat} {y0 y1 y2:Value} {t:TypeId} (h:x.heap[B]?=some (.cells #[y0,y1,y2] t (0,0))) (v0 v1 v2:Value) :
  (x.cell? ⟨B,0,none⟩=some y0/\x.cell? ⟨B,1,none⟩=some y1/\x.cell? ⟨B,2,none⟩=some y2/\x.frozen? ⟨B,0,none⟩=false/\x.frozen? ⟨B,1,none⟩=false/\x.frozen? ⟨B,2,none⟩=false) /\
  ((x.setCell ⟨B,0,none⟩ v0).cell? ⟨B,1,none⟩=some y1/\(x.setCell ⟨B,0,none⟩ v0).frozen? ⟨B,1,none⟩=false) /\
  (((x.setCell ⟨B,0,none⟩ v0).setCell ⟨B,1,none⟩ v1).cell? ⟨B,2,none⟩=some y2/\((x.setCell ⟨B,0,none⟩ v0).setCell ⟨B,1,none⟩ v1).frozen? ⟨B,2,none⟩=false) /\
  ((((x.setCell ⟨B,0,none⟩ v0).setCell ⟨B,1,none⟩ v1).setCell ⟨B,2,none⟩ v2).cell? ⟨B,0,none⟩=some v0/\(((x.setCell ⟨B,0,none⟩ v0).setCell ⟨B,1,none⟩ v1).setCell ⟨B,2,none⟩ v2).cell? ⟨B,1,none⟩=some v1/\(((x.setCell ⟨B,0,none⟩ v0).setCell ⟨B,1,none⟩ v1).setCell ⟨B,2,none⟩ v2).cell? ⟨B,2,none⟩=some v2):=by
 have h0:=heap_set_eq (j:=0) h v0;have h1:=heap_set_eq (j:=1) h0 v1;have h2:=heap_set_eq (j:=2) h1 v2;exact ⟨⟨cell_at h rfl,cell_at h rfl,cell_at h rfl,frozen_at 0 h,frozen_at 1 h,frozen_at 2 h⟩,⟨cell_at h0 rfl,frozen_at 1 h0⟩,⟨cell_at h1 rfl,frozen_at 2 h1⟩,cell_at h2 rfl,cell_at h2 rfl,cell_at h2 rfl⟩
theorem ch3_upd {S:List Nat} {w x:World} {B:Nat} {v0 v1 v2:Value} (u:Upd S w x) (h:w.heap.size<=B):Upd S w (((x.setCell ⟨B,0,none⟩ v0).setCell ⟨B,1,none⟩ v1).setCell ⟨B,2,none⟩ v2) :=
 ((u.setCell (p:=⟨B,0,none⟩) (.inr h) _).setCell (p:=⟨B,1,none⟩) (.inr h) _).setCell (p:=⟨B,2,none⟩) (.inr h) _
structure ExR (b:Nat) (F:List Nat) (R:Int->KV->Prop) (w:World) (code:Int) (w':World):Prop where
 ex:∃ (K':KV) (F':List Nat),KerAt w' b K' F'/\Upd F w w'/\Sub F w F'/\R code K'
structure TryQ (b:Nat) (l:Int) (K:KV) (F:List Nat) (R:Int->KV->Prop) (w:World) (e:Ending) (w':World):Prop where
 ex:∃ (code:Int) (K':KV) (F':List Nat),e=.returned (.tuple #[if code=0 then .agg #[.int .i64 l,.int .i64 ((K.A.used:Int)-2),.int .i64 ((K'.A.used:Int)-2)] else .agg #[.int .i64 0,.int .i64 0,.int .i64 0],.int .i64 code])/\KerAt w' b K' F'/\Upd F w w'/\Sub F w F'/\R code K'
theorem try_spec (b:Nat) (l:Int) (K:KV) (F:List Nat) (R:Int->KV->Prop) (w:World) (h:KerAt w b K F)
  (hx:∀ z,KerAt z b K F->Calls Tryz.prog 29 #[.pointer (some ⟨b,0,none⟩),.int .i64 l] z fun e w'=>∃ code:Int,e=.returned (.int .i64 code)/\ExR b F R z code w') :
  Calls Tryz.prog 20 #[.pointer (some ⟨b,0,none⟩),.int .i64 l] w fun e w'=>TryQ b l K F R w e w':=by
 have HK:=Lib.hid h;have HX:=Lib.hid hx;clear h hx
 go_enter Tryz.func20,Tryz.ntmps20
 go_wp2_with fail;refine (live_at b K F _ (HK.out.upd ((Upd.refl [] w).alloc _) (by simp))).mono ?_;rintro e w1 ⟨rfl,rfl⟩;go_wp2_with fail;have HB1:=Lib.hid (heap_alloc_new (w.alloc (.cells #[.int .i64 0,.int .i64 0,.int .i64 0] 46 (0,0))) (.cells #[.int .i64 l,.int .i64 ((K.A.used:Int)-2),.int .i64 0] 46 (0,0)))
 have HB0:Hid (((w.alloc (.cells #[.int .i64 0,.int .i64 0,.int .i64 0] 46 (0,0))).alloc (.cells #[.int .i64 l,.int .i64 ((K.A.used:Int)-2),.int .i64 0] 46 (0,0))).heap[w.heap.size]?=some (.cells #[.int .i64 0,.int .i64 0,.int .i64 0] 46 (0,0))) :=
  (Below.heap_alloc _ _ _ (heap_lt (heap_alloc_new _ _))).trans (heap_alloc_new _ _)
 have HU:=Lib.hid (((Upd.refl [] w).alloc (.cells #[.int .i64 0,.int .i64 0,.int .i64 0] 46 (0,0))).alloc (.cells #[.int .i64 l,.int .i64 ((K.A.used:Int)-2),.int .i64 0] 46 (0,0)));obtain ⟨w2,hw2⟩ : ∃ w2,(w.alloc (.cells #[.int .i64 0,.int .i64 0,.int .i64 0] 46 (0,0))).alloc (.cells #[.int .i64 l,.int .i64 ((K.A.used:Int)-2),.int .i64 0] 46 (0,0))=w2:=⟨_,rfl⟩;rw [World.size_alloc] at HB1;rw [hw2] at HB0 HB1 HU ⊢;clear hw2;refine (HX.out _ (HK.out.upd HU.out (by simp))).mono ?_;rintro e w3 ⟨code,rfl,hR⟩;obtain ⟨K',F',hK3,hu3,hs3,hr⟩:=hR.ex
 have hz:∀ k,w.heap.size<=k->k∉F:=fun k hk hm=>by have:=HK.out.lt k hm;omega
 have HC0:=Lib.hid ((hu3.block _ (heap_lt HB0.out) (hz _ (Nat.le_refl _))).trans HB0.out);have HC1:=Lib.hid ((hu3.block _ (heap_lt HB1.out) (hz _ (by omega))).trans HB1.out);have HR:=Lib.hid (And.intro hK3 (And.intro hu3 (And.intro hs3 hr)));clear hR hK3 hu3 hs3 hr hz
 by_cases hc:code=0
 ·subst hc
  go_wp2_with fail;refine (live_at b K' F' _ HR.out.1).mono ?_;rintro e w4 ⟨rfl,rfl⟩;have c1:w4.cell? ⟨w.heap.size+1,2,none⟩=some (.int .i64 0):=cell_at HC1.out rfl;have f1:=frozen_at 2 HC1.out;have hb1:=heap_set_eq (j:=2) HC1.out (.int .i64 ((K'.A.used:Int)-2));have hb0:=(heap_set_ne (w:=w4) (a:=⟨w.heap.size+1,2,none⟩) (u:=.int .i64 ((K'.A.used:Int)-2)) (k:=w.heap.size) (by simp)).trans HC0.out;obtain ⟨⟨r0,r1,r2,_⟩,_⟩:=ch3 hb1 (.int .i64 0) (.int .i64 0) (.int .i64 0);obtain ⟨⟨s0,s1,s2,g0,g1,g2⟩,⟨s3,g3⟩,⟨s4,g4⟩,z0,z1,z2⟩:=ch3 hb0 (.int .i64 l) (.int .i64 ((K.A.used:Int)-2)) (.int .i64 ((K'.A.used:Int)-2))
  have HFIN:Hid (TryQ b l K F R w (.returned (.tuple #[.agg #[.int .i64 l,.int .i64 ((K.A.used:Int)-2),.int .i64 ((K'.A.used:Int)-2)],.int .i64 0])) ((((w4.setCell ⟨w.heap.size+1,2,none⟩ (.int .i64 ((K'.A.used:Int)-2))).setCell ⟨w.heap.size,0,none⟩ (.int .i64 l)).setCell ⟨w.heap.size,1,none⟩ (.int .i64 ((K.A.used:Int)-2))).setCell ⟨w.heap.size,2,none⟩ (.int .i64 ((K'.A.used:Int)-2)))):=by
   have hu4:Upd F w w4:=(HU.out.mono (by simp):Upd F w w2).trans HR.out.2.1
   have hF':∀ k,k∈F'->k≠w.heap.size/\k≠w.heap.size+1:=fun k hk=>by
    rcases HR.out.2.2.1 k hk with h | h
    ·have:=HK.out.lt k h;omega
    ·have:=heap_lt HB1.out;omega
   have hu5:Upd [w.heap.size,w.heap.size+1] w4 ((((w4.setCell ⟨w.heap.size+1,2,none⟩ (.int .i64 ((K'.A.used:Int)-2))).setCell ⟨w.heap.size,0,none⟩ (.int .i64 l)).setCell ⟨w.heap.size,1,none⟩ (.int .i64 ((K.A.used:Int)-2))).setCell ⟨w.heap.size,2,none⟩ (.int .i64 ((K'.A.used:Int)-2))) :=
    ((((Upd.refl _ _).setCell (p:=⟨w.heap.size+1,2,none⟩) (.inl (by simp)) _).setCell (p:=⟨w.heap.size,0,none⟩) (.inl (by simp)) _).setCell (p:=⟨w.heap.size,1,none⟩) (.inl (by simp)) _).setCell (p:=⟨w.heap.size,2,none⟩) (.inl (by simp)) _
   refine ⟨0,K',F',by simp,HR.out.1.upd hu5 (fun k hk hm=>?_),ch3_upd (hu4.setCell (p:=⟨w.heap.size+1,2,none⟩) (.inr (by show w.heap.size<=w.heap.size+1;omega)) _) (Nat.le_refl _),fun k hk=>?_,HR.out.2.2.2⟩
   ·have:=hF' k hk;simp at hm;omega
   ·exact (HR.out.2.2.1 k hk).imp id fun h=>Nat.le_trans HU.out.size h
  clear hb1 hb0;go_wp2_with fail;refine bodyPost_ret (v:=.tuple #[.agg #[.int .i64 l,.int .i64 ((K.A.used:Int)-2),.int .i64 ((K'.A.used:Int)-2)],.int .i64 0]) (by simp [results,Tryz.results20,go_sem,z0,z1,z2]) rfl HFIN.out
 ·have hc1:(code == 0)=false:=by simpa using hc
  obtain ⟨⟨s0,s1,s2,g0,g1,g2⟩,⟨s3,g3⟩,⟨s4,g4⟩,z0,z1,z2⟩:=ch3 HC0.out (.int .i64 0) (.int .i64 0) (.int .i64 0)
  have HFIN:Hid (TryQ b l K F R w (.returned (.tuple #[.agg #[.int .i64 0,.int .i64 0,.int .i64 0],.int .i64 code])) (((w3.setCell ⟨w.heap.size,0,none⟩ (.int .i64 0)).setCell ⟨w.heap.size,1,none⟩ (.int .i64 0)).setCell ⟨w.heap.size,2,none⟩ (.int .i64 0))):=by
   have hu4:Upd F w w3:=(HU.out.mono (by simp):Upd F w w2).trans HR.out.2.1
   have hu5:Upd [w.heap.size] w3 (((w3.setCell ⟨w.heap.size,0,none⟩ (.int .i64 0)).setCell ⟨w.heap.size,1,none⟩ (.int .i64 0)).setCell ⟨w.heap.size,2,none⟩ (.int .i64 0)) :=
    (((Upd.refl _ _).setCell (p:=⟨w.heap.size,0,none⟩) (.inl (by simp)) _).setCell (p:=⟨w.heap.size,1,none⟩) (.inl (by simp)) _).setCell (p:=⟨w.heap.size,2,none⟩) (.inl (by simp)) _
   refine ⟨code,K',F',by rw [if_neg hc],HR.out.1.upd hu5 (fun k hk hm=>?_),ch3_upd hu4 (Nat.le_refl _),fun k hk=>?_,HR.out.2.2.2⟩
   ·simp at hm
    rcases HR.out.2.2.1 k hk with h | h
    ·have:=HK.out.lt k h;omega
    ·have:=heap_lt HB1.out;omega
   ·exact (HR.out.2.2.1 k hk).imp id fun h=>Nat.le_trans HU.out.size h
  go_wp2_with fail;refine bodyPost_ret (v:=.tuple #[.agg #[.int .i64 0,.int .i64 0,.int .i64 0],.int .i64 code]) (by simp [results,Tryz.results20,go_sem,z0,z1,z2]) rfl HFIN.out
structure UnS (b:Nat) (P:KV->Prop) (K:KV) (F:List Nat) (w:World) (e:Ending) (w':World):Prop where
 ex:∃ (l:Nat) (K':KV) (F':List Nat),e=.returned (.tuple #[.int .i64 l,.int .i64 0])/\KerAt w' b K' F'/\Stp F w F' w'/\P K'/\K'.trail.length+1=K.trail.length
structure BackQ (b tr:Nat) (P:KV->Prop) (K:KV) (F:List Nat) (w:World) (e:Ending) (w':World):Prop where
 ex:∃ (K':KV) (F':List Nat),e=.returned (.tuple #[.int .i64 (K.trail.length-tr:Nat),.int .i64 0])/\KerAt w' b K' F'/\Stp F w F' w'/\P K'/\K'.trail.length=tr
theorem back_spec (b tr:Nat) (P:KV->Prop) (K:KV) (F:List Nat) (w:World) (h:KerAt w b K F) (hp:P K) (htr:tr<=K.trail.length) (hlen:K.trail.length<=1000000)
  (hu:∀ z K F,KerAt z b K F->P K->tr<K.trail.length->K.trail.length<=1000000->Calls Tryz.prog 68 #[.pointer (some ⟨b,0,none⟩)] z fun e w'=>UnS b P K F z e w') :
  Calls Tryz.prog 23 #[.pointer (some ⟨b,0,none⟩),.int .i64 tr] w fun e w'=>BackQ b tr P K F w e w':=by
 have HK:=Lib.hid (And.intro h hp);have HU:=Lib.hid hu;obtain ⟨TL,hTL⟩ : ∃ TL,K.trail.length=TL:=⟨_,rfl⟩;have HTL:=Lib.hid hTL;have HTA:=Lib.hid (trail_at b K F w h);rw [hTL] at htr hlen HTA
 have h0:¬ (tr:Int)<0:=by omega
 have h1:¬ (TL:Int)<(tr:Int):=by omega
 have h2:(tr:Int)<=(TL:Int):=by omega
 have h3:decide (TL<tr)=false:=by simp;omega
 clear h hu hTL hp
 go_enter Tryz.func23,Tryz.ntmps23
 go_wp2_with fail;refine HTA.out.mono ?_;rintro e w1 ⟨rfl,hw1⟩;have HW1:=Lib.hid hw1;clear hw1;go_wp2_with fail
 go_loopg [6] TL (fun g s6 wr=>∃ (i:Nat) (K2:KV) (F2:List Nat),TL-i=g/\s6=.int .i64 i/\KerAt wr b K2 F2/\Stp F w F2 wr/\P K2/\K2.trail.length+i=TL/\tr+i<=TL)
 case atStart=>exact ⟨0,K,F,by omega,rfl,by rw [HW1.out];exact HK.out.1,by rw [HW1.out];exact ⟨Upd.refl _ _,Sub.refl _ _⟩,HK.out.2,by have:=HTL.out;omega,by omega⟩
 case round =>
  obtain ⟨i,K2,F2,rfl,rfl,hK2,hst,hp2,hl2,hti⟩:=hrel;obtain ⟨T2,hT2⟩ : ∃ T2,K2.trail.length=T2:=⟨_,rfl⟩;have HT2:=Lib.hid hT2;have HTA2:=Lib.hid (trail_at b K2 F2 wr hK2);rw [hT2] at HTA2 hl2;have HX:=Lib.hid (And.intro hK2 (And.intro hst hp2));clear hK2 hst hp2 hT2;go_wp2_with fail;refine HTA2.out.mono ?_;rintro e w2 ⟨rfl,hw2⟩;have HW2:=Lib.hid hw2;clear hw2
  by_cases hgt:tr<T2
  ·have hg1:(tr:Int)<(T2:Int):=by omega
   go_wp2_with fail;rw [HW2.out];refine (HU.out wr K2 F2 HX.out.1 HX.out.2.2 (by rw [HT2.out];exact hgt) (by rw [HT2.out];omega)).mono ?_;rintro e w3 hE;obtain ⟨l,K3,F3,rfl,hK3,hs3,hp3,hl3⟩:=hE.ex;have HY:=Lib.hid (And.intro hK3 (And.intro hs3 (And.intro hp3 hl3)));clear hE hK3 hs3 hp3 hl3;go_wp2_with fail
   go_roundg (TL-(i+1))
   case measure=>omega
   case rel=>exact ⟨i+1,K3,F3,rfl,by simp,HY.out.1,HX.out.2.1.trans HY.out.2.1,HY.out.2.2.1,by have:=HY.out.2.2.2;have:=HT2.out;omega,by omega⟩
  ·have hg1:¬ (tr:Int)<(T2:Int):=by omega
   have hi:i=TL-tr:=by omega
   have HFIN:Hid (BackQ b tr P K F w (.returned (.tuple #[.int .i64 i,.int .i64 0])) w2):=by
    refine ⟨K2,F2,by rw [HTL.out,hi],?_,?_,HX.out.2.2,by rw [HT2.out];omega⟩
    ·rw [HW2.out];exact HX.out.1
    ·rw [HW2.out];exact HX.out.2.1
   clear hi;go_wp2_with fail;go_ret2;exact HFIN.out
theorem Tryz.infoChangeS:(Tryz.prog.info? 46).map (fun i=>(i.zero,i.size,i.bytes))=some (some (.agg #[.int .i64 0,.int .i64 0,.int .i64 0]),3,24):=by kernel_rfl
def chV (c:Int × Int × Int):Value:=.agg #[.int .i64 c.1,.int .i64 c.2.1,.int .i64 c.2.2]
def flatChg (l:List (Int × Int × Int)):List Value:=l.flatMap fun c=>[.int .i64 c.1,.int .i64 c.2.1,.int .i64 c.2.2]
def MV.tryV (M:MV) (l:Int):Int × Int × Int:=if M.exchE l=0 then (l,M.live,(M.exch l).live) else (0,0,0)
def MV.playV (M:MV):List Int->List (Int × Int × Int) × Int × MV
 | []=>([],0,M)
 | l::ls=>if M.exchE l=0 then (M.tryV l::((M.exch l).playV ls).1,((M.exch l).playV ls).2) else ([],M.exchE l,M)
structure TryM (b:Nat) (l:Int) (K:KV) (F:List Nat) (M:MV) (w:World) (e:Ending) (w':World):Prop where
 ex:∃ (K':KV) (F':List Nat),e=.returned (.tuple #[chV (M.tryV l),.int .i64 (M.exchE l)])/\KerAt w' b K' F'/\KM K' (M.exch l)/\Stay K K'/\Stp F w F' w'
theorem try_km (b:Nat) (l:Int) (K:KV) (F:List Nat) (M:MV) (w:World) (h:KerAt w b K F) (hm:KM K M) (ht:M.trail.length<=1000000) :
  Calls Tryz.prog 20 #[.pointer (some ⟨b,0,none⟩),.int .i64 l] w fun e w'=>TryM b l K F M w e w':=by
 refine (try_spec b l K F (fun code K'=>code=M.exchE l/\KM K' (M.exch l)/\Stay K K') w h fun z hz=>?_).mono ?_
 ·refine (exch_km b l K F M z hz hm ht).mono ?_
  rintro e w' ⟨rfl,hk⟩;obtain ⟨K',F',h1,h2,h3,h4,h5⟩:=hk.ex;exact ⟨_,rfl,K',F',h1,h4,h5,rfl,h2,h3⟩
 ·rintro e w' hE
  obtain ⟨code,K',F',rfl,h1,h4,h5,rfl,h2,h3⟩:=hE.ex;refine ⟨K',F',?_,h1,h2,h3,h4,h5⟩;have e1:=hm.live h.ok h.uni;have e2:=h2.live h1.ok h1.uni;unfold MV.tryV chV;rw [e1,e2]
  split <;> rfl
structure PlayQ (b:Nat) (Ls:List Int) (K:KV) (F:List Nat) (M:MV) (w:World) (e:Ending) (w':World):Prop where
 ex:∃ (v:Value) (K':KV) (F':List Nat),e=.returned (.tuple #[v,.int .i64 (M.playV Ls).2.1])/\w'.ownsRow w.heap.size 46 3 v (M.playV Ls).1.length (flatChg (M.playV Ls).1)/\(∀ k,v.ownBlock=some k->k∉F')/\KerAt w' b K' F'/\KM K' (M.playV Ls).2.2/\Stay K K'/\Stp F w F' w'
theorem play_spec (b:Nat) (la:Option Addr) (ln lc:Nat) (Ls:List Int) (K:KV) (F:List Nat) (M:MV) (w:World) (h:KerAt w b K F) (hm:KM K M) (ht:M.trail.length<=900000) (hL:RowOf w .i64 la ln Ls) (hln:ln<=1000) (hla:∀ x,la=some x->x.block∉F) :
  Calls Tryz.prog 24 #[.pointer (some ⟨b,0,none⟩),.slice la ln lc] w fun e w'=>PlayQ b Ls K F M w e w':=by
 obtain ⟨ti,hi2,hz2,hs2,hb2⟩:=info_parts Tryz.infoChangeS;have HI:=Lib.hid (And.intro hi2 (And.intro hz2 (And.intro hs2 hb2)));have H0:=Lib.hid (And.intro h (And.intro hm ht));have HL:=Lib.hid (And.intro hL hla);have hll:=hL.len;have HLL:=Lib.hid hll;clear h hm ht hL hi2 hz2 hs2 hb2 hll hla
 go_enter Tryz.func24,Tryz.ntmps24
 go_wp2_with fail
 go_loopg [6,15] ln (fun g s6 s15 wr=>∃ (j:Nat) (K2:KV) (F2:List Nat) (M2:MV) (cs:List (Int × Int × Int)),ln-j=g/\j<=ln/\s15=.int .i64 j/\KerAt wr b K2 F2/\KM K2 M2/\Stay K K2/\Stp F w F2 wr/\M2.trail.length<=900000+j /\
  wr.ownsRow w.heap.size 46 3 s6 cs.length (flatChg cs)/\(∀ k,s6.ownBlock=some k->k∉F2)/\cs.length<=j/\Hid (M.playV Ls=(cs++(M2.playV (Ls.drop j)).1,(M2.playV (Ls.drop j)).2)))
 case atStart=>exact ⟨0,K,F,M,[],by omega,by omega,rfl,H0.out.1,H0.out.2.1,Stay.refl _,⟨Upd.refl _ _,Sub.refl _ _⟩,H0.out.2.2,World.ownsRow_nil _ _ _ _,fun k hk=>by simp [Value.ownBlock] at hk,by simp,Lib.hid (by simp)⟩
 case round =>
  obtain ⟨j,K2,F2,M2,cs,rfl,hj,rfl,hK2,hm2,hst,hsp,ht2,hrow,hdj,hcs,HPV⟩:=hrel;obtain ⟨oa,oc,hov,_⟩:=row_nil_len hrow;subst hov
  by_cases hlt:j<ln
  ·obtain ⟨x,hx,hc⟩:=HL.out.1.at_ j hlt
   have hcr:=(hsp.up.cell (World.block_lt_of_cell? _ _ hc) (by
    have h1:=HL.out.2 x hx
    unfold Addr.add;split <;> exact h1)).trans hc
   subst hx
   have hil:(j:Int)<(ln:Int):=by omega
   have HDR:Hid (Ls.drop j=Ls.getD j 0::Ls.drop (j+1)):=by
    have h1:j<Ls.length:=by rw [HLL.out];exact hlt
    show _=_
    rw [List.drop_eq_getElem_cons h1,List.getD_eq_getElem?_getD,List.getElem?_eq_getElem h1];rfl
   clear hc;generalize Ls.getD j 0=l at *;have HTR:=Lib.hid (try_km b l K2 F2 M2 wr hK2 hm2 (by omega));have HX:=Lib.hid (And.intro hK2 (And.intro hm2 (And.intro hst (And.intro hsp (And.intro hrow hdj)))));clear hK2 hm2 hst hsp hrow hdj;go_wp2_with fail;refine HTR.out.mono ?_;rintro e w3 hE;obtain ⟨K3,F3,rfl,hK3,hm3,hs3,hp3⟩:=hE.ex;have HY:=Lib.hid (And.intro hK3 (And.intro hm3 (And.intro hs3 hp3)));obtain ⟨E,hEE⟩ : ∃ E,M2.exchE l=E:=⟨_,rfl⟩;obtain ⟨c,hcc⟩ : ∃ c,M2.tryV l=c:=⟨_,rfl⟩;have HE:=Lib.hid (And.intro hEE hcc);rw [hEE,hcc];unfold chV;clear hE hK3 hm3 hs3 hp3 hEE hcc HTR;have hbx:=heap_alloc_new w3 (.cells #[.int .i64 c.1,.int .i64 c.2.1,.int .i64 c.2.2] 46 (0,0));have b0:=cell_at (j:=0) hbx rfl;have b1:=cell_at (j:=1) hbx rfl;have b2:=cell_at (j:=2) hbx rfl
   by_cases h0:E=0
   ·subst h0
    have HROW:Hid (w3.ownsRow w.heap.size 46 3 (.slice oa cs.length oc) cs.length (flatChg cs)):=row_keep HX.out.2.2.2.2.1 fun k hk=>HY.out.2.2.2.up.block k (HX.out.2.2.2.2.1.lt k hk).2 (HX.out.2.2.2.2.2 k hk)
    have HC2:Hid (∀ z,z∈[Value.int .i64 c.1,Value.int .i64 c.2.1,Value.int .i64 c.2.2]->z.oneCell'=true):=by
     intro z hz;simp at hz;rcases hz with rfl | rfl | rfl <;> rfl
    clear hbx
    have hbs:w.heap.size<=((w3.alloc (.cells #[.int .i64 c.1,.int .i64 c.2.1,.int .i64 c.2.2] 46 (0,0))).alloc (.cells #[.int .i64 c.1,.int .i64 c.2.1,.int .i64 c.2.2] 46 (0,0))).heap.size:=by
     have h1:=(HX.out.2.2.2.1.trans HY.out.2.2.2).up.size
     rw [World.size_alloc,World.size_alloc];omega
    go_wp2_with (at_builtin;go_must (refine wpList_append_lies _ rfl (.tmp 29) (.tmp 31) 59 rfl w.heap.size 46 ti _ 3 24 Tryz.underlying59 HI.out.1 HI.out.2.1 HI.out.2.2.1 HI.out.2.2.2 (by rfl) (by decide) _ cs.length (flatChg cs) rfl ((HROW.out.alloc _).alloc _) ⟨_,0,none⟩ 1 1 [.int .i64 c.1,.int .i64 c.2.1,.int .i64 c.2.2] rfl rfl ?c1 HC2.out (by omega) (by unfold maxLen;omega) (by omega) hbs _ rfl ?_))
    case c1 =>
     have hb2:=heap_alloc_new (w3.alloc (.cells #[.int .i64 c.1,.int .i64 c.2.1,.int .i64 c.2.2] 46 (0,0))) (.cells #[.int .i64 c.1,.int .i64 c.2.1,.int .i64 c.2.2] 46 (0,0));rw [World.size_alloc] at hb2;exact World.news_of_block hb2
    intro g5 cap w5 hown hgr hat hlt5
    have HZ:Hid (KerAt w5 b K3 F3/\Stp F w F3 w5/\w5.ownsRow w.heap.size 46 3 (.slice (some ⟨g5,0,none⟩) (cs.length+1) cap) (cs++[c]).length (flatChg (cs++[c]))/\∀ k,(Value.slice (some ⟨g5,0,none⟩) (cs.length+1) cap).ownBlock=some k->k∉F3):=by
     have u5:Upd (Value.slice oa cs.length oc).ownBlock.toList w3 w5:=Upd.grown (((Upd.refl _ w3).alloc _).alloc _) hgr (fun k hk=>.inl (by simp [hk]))
     have hno:∀ k,(Value.slice oa cs.length oc).ownBlock=some k->k∉F3:=fun k hk hm=>by
      rcases HY.out.2.2.2.sub k hm with h | h
      ·exact HX.out.2.2.2.2.2 k hk h
      ·have:=(HX.out.2.2.2.2.1.lt k hk).2;omega
     have h1:=HX.out.2.2.2.1.trans HY.out.2.2.2;refine ⟨HY.out.1.upd u5 (fun k hk hm=>hno k (by simpa using hm) hk),⟨h1.up.then u5 fun k hk=>.inr (HX.out.2.2.2.2.1.lt k (by simpa using hk)).1,h1.sub⟩,?_,fun k hk hm=>?_⟩
     ·rw [List.length_append,List.length_singleton,show flatChg (cs++[c])=flatChg cs++[.int .i64 c.1,.int .i64 c.2.1,.int .i64 c.2.2] by simp [flatChg]]
      exact hown
     ·have hk':g5=k:=by simpa [Value.ownBlock] using hk
      subst hk'
      rcases hat with h | h
      ·exact hno _ h hm
      ·have:=HY.out.1.lt _ hm;omega
    clear hown hgr hat hlt5 hbs b0 b1 b2;go_wp2_with fail
    go_roundg (ln-(j+1))
    case measure=>omega
    case rel =>
     refine ⟨j+1,K3,F3,M2.exch l,cs++[c],rfl,by omega,by simp,HZ.out.1,HY.out.2.1,HX.out.2.2.1.trans HY.out.2.2.1,HZ.out.2.1,by have:=(MV.exch_trail M2 l).1;omega,HZ.out.2.2.1,HZ.out.2.2.2,by simp;omega,Lib.hid ?_⟩
     have e1:M2.playV (Ls.drop j)=(c::((M2.exch l).playV (Ls.drop (j+1))).1,((M2.exch l).playV (Ls.drop (j+1))).2):=by
      rw [HDR.out]
      conv=>lhs;unfold MV.playV
      rw [HE.out.1,if_pos rfl,HE.out.2]
     rw [HPV.out,e1];simp
   ·have hE0:(E == 0)=false:=by simpa using h0
    clear hbx
    have HFIN:Hid (∀ z,Upd [] w3 z->PlayQ b Ls K F M w (.returned (.tuple #[.slice oa cs.length oc,.int .i64 E])) z):=fun z u=>by
     have e1:(M2.playV (Ls.drop j))=([],E,M2):=by
      rw [HDR.out];unfold MV.playV;rw [HE.out.1,if_neg h0]
     have e2:M.playV Ls=(cs,E,M2):=by rw [HPV.out,e1];simp
     have e3:M2.exch l=M2:=MV.exch_no (by rw [HE.out.1];exact h0);refine ⟨_,K3,F3,by rw [e2],?_,?_,HY.out.1.upd u (by simp),?_,HX.out.2.2.1.trans HY.out.2.2.1,?_⟩
     ·rw [e2]
      exact row_keep HX.out.2.2.2.2.1 fun k hk=>by
       have hk2:=(HX.out.2.2.2.2.1.lt k hk).2;rw [u.block k (Nat.lt_of_lt_of_le hk2 HY.out.2.2.2.up.size) (by simp)];exact HY.out.2.2.2.up.block k hk2 (HX.out.2.2.2.2.2 k hk)
     ·intro k hk hm
      rcases HY.out.2.2.2.sub k hm with h | h
      ·exact HX.out.2.2.2.2.2 k hk h
      ·have:=(HX.out.2.2.2.2.1.lt k hk).2;omega
     ·rw [e2];rw [<- e3];exact HY.out.2.1
     ·have h1:=HX.out.2.2.2.1.trans HY.out.2.2.2
      exact ⟨h1.up.trans (u.mono (by simp)),h1.sub⟩
    go_wp2_with fail;go_ret2;exact HFIN.out _ ((Upd.refl _ _).alloc _)
  ·obtain rfl:j=ln:=by omega
   have hil:¬ ((j:Int)<(j:Int)):=by omega
   have HFIN:Hid (PlayQ b Ls K F M w (.returned (.tuple #[.slice oa cs.length oc,.int .i64 0])) wr):=by
    have e1:M.playV Ls=(cs,0,M2):=by
     rw [HPV.out,<- HLL.out,List.drop_length];simp [MV.playV]
    exact ⟨_,K2,F2,by rw [e1],by rw [e1];exact hrow,hdj,hK2,by rw [e1];exact hm2,hst,hsp⟩
   clear hK2 hm2 hst hsp hrow hdj;go_wp2_with fail;go_ret2;exact HFIN.out
end Go.Proofs.YtfkopmhpppeheaaGreat
