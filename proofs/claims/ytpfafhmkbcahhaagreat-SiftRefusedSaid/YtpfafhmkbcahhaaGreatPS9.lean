import Derived.Test.YtpfafhmkbcahhaaGreatPS8
import Derived.Test.YtpfafhmkbcahhaaGreatPS6
import Derived.Defers
import Derived.Deep.QuietTactic
import Derived.WideKeyEntry
namespace Go.Proofs.YtpfafhmkbcahhaaGreat
open Go.RowKit Go.Maps Go.ChangeMaps Go.WideShapes
structure ArrR (w0:World) (bl bh l0 l1 l2 u0 u1 u2:Nat) (wr:World):Prop where
  up:Upd [] w0 wr
  lo:wr.heap[bl]?=some (.cells #[.int .u32 l0,.int .u32 l1,.int .u32 l2] 252 (0,0))
  hi:wr.heap[bh]?=some (.cells #[.int .u32 u0,.int .u32 u1,.int .u32 u2] 252 (0,0))
  ne:bl≠bh
  lb:w0.heap.size≤bl∧w0.heap.size≤bh
theorem ArrR.start (w:World) (f g h:Nat):ArrR w (w.heap.size + 1) w.heap.size f g h f g h ((w.alloc (.cells #[.int .u32 f,.int .u32 g,.int .u32 h] 252 (0,0))).alloc (.cells #[.int .u32 f,.int .u32 g,.int .u32 h] 252 (0,0))).drew:=by
  have e1:=heap_alloc_new w (.cells #[.int .u32 f,.int .u32 g,.int .u32 h] 252 (0,0));have e2:=heap_alloc_new (w.alloc (.cells #[.int .u32 f,.int .u32 g,.int .u32 h] 252 (0,0))) (.cells #[.int .u32 f,.int .u32 g,.int .u32 h] 252 (0,0));rw [World.size_alloc] at e2;exact ⟨(((Upd.refl [] w).alloc _).alloc _).drew,e2,(heap_alloc_old _ _ (heap_lt e1)).trans e1,by omega,by omega,by omega⟩
theorem ArrR.swap {w:World} {bl bh l0 l1 l2:Nat} {wr:World} (h:ArrR w bl bh l0 l1 l2 l0 l1 l2 wr):ArrR w bh bl l0 l1 l2 l0 l1 l2 wr:=⟨h.up,h.hi,h.lo,Ne.symm h.ne,h.lb.2,h.lb.1⟩
theorem ArrR.skip {w:World} {bl bh l0 l1 l2 u0 u1 u2:Nat} {wr:World} (h:ArrR w bl bh l0 l1 l2 u0 u1 u2 wr) (o:Obj):ArrR w bl bh l0 l1 l2 u0 u1 u2 (wr.alloc o) :=
  ⟨h.up.alloc o,(heap_alloc_old _ _ (heap_lt h.lo)).trans h.lo,(heap_alloc_old _ _ (heap_lt h.hi)).trans h.hi,h.ne,h.lb⟩
theorem ArrR.cells {w:World} {bl bh l0 l1 l2 u0 u1 u2:Nat} {wr:World} (h:ArrR w bl bh l0 l1 l2 u0 u1 u2 wr) :
    (wr.cell? ⟨bl,0,none⟩=some (.int .u32 l0)∧wr.cell? ⟨bl,1,none⟩=some (.int .u32 l1)∧wr.cell? ⟨bl,2,none⟩=some (.int .u32 l2))∧(wr.cell? ⟨bh,0,none⟩=some (.int .u32 u0)∧wr.cell? ⟨bh,1,none⟩=some (.int .u32 u1)∧wr.cell? ⟨bh,2,none⟩=some (.int .u32 u2)) ∧
    (∀ j,wr.frozen? ⟨bl,j,none⟩=false)∧(∀ j,wr.frozen? ⟨bh,j,none⟩=false) :=
  ⟨⟨cell_at h.lo rfl,cell_at h.lo rfl,cell_at h.lo rfl⟩,⟨cell_at h.hi rfl,cell_at h.hi rfl,cell_at h.hi rfl⟩,fun j=>frozen_at j h.lo,fun j=>frozen_at j h.hi⟩
end Go.Proofs.YtpfafhmkbcahhaaGreat
namespace Go.Proofs.YtpfafhmkbcahhaaGreat
open Go.RowKit Go.Maps Go.ChangeMaps Go.WideShapes
structure EndX (K0 K:KV) (M:List Nat) (r:Nat) (code:Int) (K':KV):Prop where
  ext:K'.Ext K
  hd:∀ x,K'.hold x=K0.hold x + (if x=r∧decide (2≤r∧code=0)=true∧r∈M then 1 else 0)
  tr:M≠[]→K'.trail=[]
  tc:code=0→r < 2→K'.trail=[]
  nil:M=[]→¬ (code=0∧r < 2)→K'=K
structure EndY (b:Nat) (K0 K:KV) (q:KPtr) (M:List Nat) (r:Nat) (code:Int) (F:List Nat) (w w':World):Prop where
  ex:∃ (K':KV) (T':List DM) (q':KPtr),KerIn w' b K' T' q'∧Upd F w w'∧Sub (q.all b) w (q'.all b)∧EndX K0 K M r code K'
theorem EndP.y {wb b r:Nat} {code:Int} {K0 K:KV} {q:KPtr} {M:List Nat} {lvv mv:Value} {w w1:World} (h:EndP wb b r code K0 K q M lvv mv w w1) {cr ce:Nat} (hcr:cr < w.heap.size∧cr∉wkF wb b q lvv mv) (hce:ce < w.heap.size∧ce∉wkF wb b q lvv mv) (u v:Value) :
    EndY b K0 K q M r code (cr :: ce :: wkF wb b q lvv mv) w ((w1.setCell ⟨cr,0,none⟩ u).setCell ⟨ce,0,none⟩ v):=by
  obtain ⟨K',T',q',hk,hu,hs,e1,e2,e3,e4,e5⟩:=h.ex
  have out:∀ c,c < w.heap.size∧c∉wkF wb b q lvv mv→c∉q'.all b:=fun c hc hm=>by
    rcases hs c hm with h | h
    · exact hc.2 (List.mem_append.2 (.inl h))
    · omega
  have h1:Upd [cr,ce] w1 ((w1.setCell ⟨cr,0,none⟩ u).setCell ⟨ce,0,none⟩ v):=((Upd.refl _ w1).setCell (p:=⟨cr,0,none⟩) (.inl (by simp)) _).setCell (p:=⟨ce,0,none⟩) (.inl (by simp)) _;refine ⟨K',T',q',hk.upd h1 (fun k hm hc=>?_),(hu.mono (fun x hx=>by simp [hx])).then h1 (fun x hx=>.inl ?_),hs,e1,e2,e3,e4,e5⟩
  · simp at hc
    rcases hc with rfl | rfl
    · exact out _ hcr hm
    · exact out _ hce hm
  · simp at hx
    rcases hx with rfl | rfl <;> simp
end Go.Proofs.YtpfafhmkbcahhaaGreat
namespace Go.Proofs.YtpfafhmkbcahhaaGreat
theorem ext_back {K0 K1 K':KV} (h0:K0.Ok) (h':K'.Ok) (e0:K0.Ext K1) (e':K'.Ext K1) (hd:∀ x,0 < K0.hold x→0 < K'.hold x):K0.Ext K':=by
  have same:∀ (r:Nat) (p:PlaceV),K0.A.list[r]?=some p→p.taken=true→K'.A.tk r=true→K'.A.list[r]?=some p:=by
    intro r p hp hpt ht
    obtain ⟨p',hp',hpt'⟩:=ArenaV.tk_iff.1 ht;have a:=e0.nd r p hp hpt;have b:=e'.nd r p' hp' hpt'
    rw [a] at b; cases b; exact hp'
  have reach:∀ {r:Nat},K0.Reach r→K'.A.tk r=true:=by
    intro r hr
    induction hr with
    | root h=>exact (h'.wf.ht _ (hd _ h)).2
    | lo _ h2 hp hpt ih=>exact (h'.wf.cl _ _ h2 (same _ _ hp hpt ih) hpt).1
    | hi _ h2 hp hpt ih=>exact (h'.wf.cl _ _ h2 (same _ _ hp hpt ih) hpt).2
  refine ⟨fun r p hp hpt=>same r p hp hpt ?_,by rw [← e'.pl,e0.pl],by rw [← e'.vr,e0.vr],by rw [← e'.od,e0.od],by rw [← e'.lv,e0.lv]⟩
  by_cases h2:2≤r
  · exact reach (KV.live_reach h0.wf h0.pos h0.ord _ r h2 (ArenaV.tk_iff.2 ⟨p,hp,hpt⟩) (Nat.le_refl _))
  · exact h'.tk_const (by omega)
structure OpOk (K0:KV) (t:(Nat→Bool)→Bool) (r:Nat) (K':KV):Prop where
  ext:K0.Ext K'
  tk:K'.A.tk r=true
  den:∀ x,K'.den r x=t x
  hd:∀ x,K'.hold x=K0.hold x + (if x=r∧2≤r then 1 else 0)
  tr:K'.trail=[]
  new:∀ x,K'.A.tk x=true→K0.A.tk x=false→K0.SubN t (K'.den x)
structure OpBad (K0 K':KV):Prop where
  ext:K0.Ext K'
  back:K'.Ext K0
  hd:∀ x,K'.hold x=K0.hold x
  tr:K'.trail=[]∨K'.trail=K0.trail
def OpR (K0:KV) (t:(Nat→Bool)→Bool) (r:Nat) (code:Int) (K':KV):Prop :=
  (code=0∧OpOk K0 t r K')∨(code=8∧r=0∧OpBad K0 K'∧∃ s,K0.A.tk s=true∧(∀ x,K0.den s x=t x)∧K0.hold s=65535)∨(code=9∧r=0∧OpBad K0 K'∧NoFit K0 (K0.SubN t))
end Go.Proofs.YtpfafhmkbcahhaaGreat
namespace Go.Proofs.YtpfafhmkbcahhaaGreat
open Go.RowKit Go.Maps Go.ChangeMaps Go.WideShapes
def lvI (K:KV) (i:Nat):List Nat:=(List.range K.vars).map fun v=>if K.lev v < i then K.lev v else 0
theorem lvI_len (K:KV) (i:Nat):(lvI K i).length=K.vars:=by simp [lvI]
theorem lvI_get (K:KV) (i v:Nat) (h:v < K.vars):(lvI K i)[v]?=some (if K.lev v < i then K.lev v else 0):=by simp [lvI,h]
theorem lvI_set {K:KV} (h:K.Perm) {i v:Nat} (hi:i < K.vars) (hv:K.order.getD i 0=v):(lvI K i).set v i=lvI K (i + 1):=by
  have ho:=h.oo i hi;rw [hv] at ho
  refine List.ext_getElem? fun j=>?_
  rw [List.getElem?_set]
  by_cases hj:j < K.vars
  · rw [lvI_get K i j hj,lvI_get K (i + 1) j hj]
    by_cases e:v=j
    · subst e
      rw [if_pos rfl,if_pos (by rw [lvI_len]; exact hj),if_pos (by omega),ho.2]
    · rw [if_neg e]
      have:K.lev j≠i:=fun e2=>e (h.inj ho.1 hj (by rw [ho.2,e2]))
      congr 1
      by_cases h1:K.lev j < i
      · rw [if_pos h1,if_pos (by omega)]
      · rw [if_neg h1,if_neg (by omega)]
  · have e1:(lvI K i)[j]?=none:=List.getElem?_eq_none (by rw [lvI_len]; omega)
    have e2:(lvI K (i + 1))[j]?=none:=List.getElem?_eq_none (by rw [lvI_len]; omega);rw [e1,e2];split
    · rename_i e; subst e; omega
    · rfl
theorem lvI_end {K:KV} (h:K.Perm):lvI K K.vars=K.level:=by
  refine List.ext_getElem? fun j=>?_
  by_cases hj:j < K.vars
  · rw [lvI_get K _ j hj,if_pos (h.lo j hj).1]
    have:j < K.level.length:=by rw [h.ll]; exact hj
    simp [KV.lev,this]
  · rw [List.getElem?_eq_none (by rw [lvI_len]; omega),List.getElem?_eq_none (by rw [h.ll]; omega)]
structure BgR (w:World) (wb b gl go:Nat) (cap:Nat) (K:KV) (i:Nat) (wr:World):Prop where
  blk:wr.heap[wb]?=some (.cells #[.pointer (some ⟨b,0,none⟩),.slice (some ⟨gl,0,none⟩) K.vars K.vars,.slice none 0 0] 301 (0,0))
  row:wr.ownsRow w.heap.size 3 1 (.slice (some ⟨gl,0,none⟩) K.vars K.vars) K.vars (flatN (lvI K i))
  ord:wr.ownsRow w.heap.size 3 1 (.slice (some ⟨go,0,none⟩) K.vars cap) K.vars (flatN K.order)
  nwg:wb≠gl
  nog:go≠gl
  lb:w.heap.size≤wb
  up:Upd [] w wr
theorem BgR.step {w wr:World} {wb b gl go cap i v:Nat} {K:KV} (h:BgR w wb b gl go cap K i wr) (hp:K.Perm) (hi:i < K.vars) (hv:K.order.getD i 0=v):BgR w wb b gl go cap K (i + 1) (wr.setCell ⟨gl,v,none⟩ (.int .i64 i)):=by
  have hvl:=(hp.oo i hi).1;rw [hv] at hvl;refine ⟨by rw [heap_set_ne h.nwg]; exact h.blk,?_,row_ne h.ord (a:=⟨gl,v,none⟩) (by simp [Value.ownBlock]; exact Ne.symm h.nog) _,h.nwg,h.nog,h.lb,h.up.setCell (p:=⟨gl,v,none⟩) (.inr (h.row.lt gl rfl).1) _⟩;have:=row_set h.row (j:=v) (by omega) (.int .i64 i);rw [← lvI_set hp hi hv]
  have e:(flatN (lvI K i)).set v (.int .i64 i)=flatN ((lvI K i).set v i):=by simp [flatN,List.map_set]
  rw [← e]; exact this
theorem BgR.done {w wr:World} {wb b gl go cap:Nat} {K:KV} {T:List DM} {q:KPtr} (h:BgR w wb b gl go cap K K.vars wr) (hk:KerIn w b K T q) :
    WK wr wb b K T q [] (.slice (some ⟨gl,0,none⟩) K.vars K.vars) (.slice none 0 0)∧Upd [] w wr∧∀ k,k∈workF wb (.slice (some ⟨gl,0,none⟩) K.vars K.vars) (.slice none 0 0)→w.heap.size≤k:=by
  have hgl:=h.row.lt gl rfl;have hlb:=h.lb
  have hF:∀ k,k∈workF wb (.slice (some ⟨gl,0,none⟩) K.vars K.vars) (.slice none 0 0)→w.heap.size≤k:=fun k hk=>by
    rcases mem_workF.1 hk with h | h | h
    · omega
    · simp [Value.ownBlock] at h; omega
    · simp [Value.ownBlock] at h
  refine ⟨⟨hk.upd h.up (by simp),⟨h.blk,?_,World.ownsRow_nil _ _ _ _,by simp [Value.ownBlock]; exact Ne.symm h.nwg,by simp [Value.ownBlock],fun k _=>by simp [Value.ownBlock]⟩,fun k hm hf=>?_⟩,h.up,hF⟩
  · have:=row_base h.row (Nat.zero_le _)
    rw [lvI_end hk.ok.ord.pm] at this
    rw [hk.ok.ord.pm.ll]; exact this
  · have:=hk.mem.lt k hm
    have:=hF k hf;omega
end Go.Proofs.YtpfafhmkbcahhaaGreat
namespace Go.Proofs.YtpfafhmkbcahhaaGreat
open Go.RowKit Go.Maps Go.ChangeMaps Go.WideShapes
def opB (op:Nat) (a b:Bool):Bool:=op.testBit (2 * (if a then 1 else 0) + (if b then 1 else 0))
end Go.Proofs.YtpfafhmkbcahhaaGreat
namespace Go.Proofs.YtpfafhmkbcahhaaGreat
open Go.RowKit Go.Maps Go.ChangeMaps Go.WideShapes
structure OpPost (b:Nat) (K0:KV) (q:KPtr) (t:(Nat→Bool)→Bool) (w:World) (e:Ending) (w':World):Prop where
  ex:∃ (r:Nat) (code:Int) (K':KV) (T':List DM) (q':KPtr),e=.returned (.tuple #[.int .u32 r,.int .i64 code])∧OpR K0 t r code K'∧KerIn w' b K' T' q'∧Upd (q.all b) w w'∧Sub (q.all b) w (q'.all b)
end Go.Proofs.YtpfafhmkbcahhaaGreat
namespace Go.Proofs.YtpfafhmkbcahhaaGreat
def KV.lives (K:KV):List Nat:=(List.range K.A.list.length).filter fun r=>K.A.tk r
theorem KV.mem_lives {K:KV} {x:Nat}:x∈K.lives↔K.A.tk x=true:=by
  simp only [KV.lives,List.mem_filter,List.mem_range]
  exact ⟨fun h=>h.2,fun h=>⟨ArenaV.tk_lt h,h⟩⟩
theorem KV.lives_nodup (K:KV):K.lives.Nodup:=List.Pairwise.filter _ List.nodup_range
theorem KV.lives_len {K:KV} {P:List Nat} (h:K.Wf P):K.lives.length=K.A.used:=by
  have hus:=h.ok.us
  have e1:K.A.free.length=((List.range K.A.list.length).filter fun r=>!(K.A.tk r)).length:=by
    have hfr:∀ r,r∈K.A.free↔r∈(List.range K.A.list.length).filter fun r=>!(K.A.tk r):=by
      intro r
      rw [h.ok.fr r,List.mem_filter,List.mem_range];constructor
      · rintro ⟨p,hp,hpt⟩
        refine ⟨(List.getElem?_eq_some_iff.1 hp).1,?_⟩
        simp [ArenaV.tk,hp,hpt]
      · rintro ⟨hl,ht⟩
        refine ⟨K.A.list[r],List.getElem?_eq_getElem hl,?_⟩
        simpa [ArenaV.tk,List.getElem?_eq_getElem hl] using ht
    refine Nat.le_antisymm ?_ ?_
    · exact List.Nodup.length_le_of_subset h.ok.nd fun r hr=>(hfr r).1 hr
    · exact List.Nodup.length_le_of_subset (List.Pairwise.filter _ List.nodup_range) fun r hr=>(hfr r).2 hr
  have e2:(List.range K.A.list.length).length=K.lives.length + ((List.range K.A.list.length).filter fun r=>!(K.A.tk r)).length:=by
    rw [KV.lives,← List.countP_eq_length_filter,← List.countP_eq_length_filter];have hh:=List.length_eq_countP_add_countP (fun r=>K.A.tk r) (l:=List.range K.A.list.length);rw [hh]
    congr 2
    funext a
    cases K.A.tk a <;> rfl
  rw [List.length_range] at e2;omega
theorem KV.used_le {K:KV} {P:List Nat} (h:K.Wf P) {l:List Nat} (hl:∀ x,K.A.tk x=true→x∈l):K.A.used≤l.length:=by
  rw [← K.lives_len h]
  exact List.Nodup.length_le_of_subset K.lives_nodup fun x hx=>hl x (KV.mem_lives.1 hx)
theorem KV.used_ge {K:KV} {P:List Nat} (h:K.Wf P) {l:List Nat} (hn:l.Nodup) (hl:∀ x,x∈l→K.A.tk x=true):l.length≤K.A.used:=by
  rw [← K.lives_len h]
  exact List.Nodup.length_le_of_subset hn fun x hx=>KV.mem_lives.2 (hl x hx)
theorem KV.sub_live {K:KV} (hk:K.Ok) (l:Nat) (a:Nat→Bool):∀ (n r:Nat),K.vars - K.dep r≤n→K.A.tk r=true→∃ x,K.A.tk x=true∧∀ y,K.den x y=K.den r (K.mix l a y)
  | n,r,hn,ht=>by
    by_cases hl:l≤K.dep r
    · refine ⟨r,ht,fun y=>KV.den_same hk.wf hk.ord _ r _ _ ht (Nat.le_refl _) fun v hv hd=>?_⟩
      simp only [KV.mix]
      rw [if_neg (by omega)]
    · by_cases h2:2≤r
      · obtain ⟨p,v,hp,hpt,hv,hvl,h3,h4,hd⟩:=hk.wf.node_at h2 ht
        have hb:=hk.ord.below hk.wf h2 hp hpt;have hdl:=hk.wf.dep_lt hk.ord h2 ht;have hlo:=hk.wf.dep_le hk.ord h3;have hhi:=hk.wf.dep_le hk.ord h4
        match n,hn with
        | 0,hn=>omega
        | n + 1,hn =>
          have em:∀ y,K.mix l a y v=a v:=fun y=>by simp only [KV.mix]; rw [if_pos ⟨hvl,by omega⟩]
          have e:∀ y,K.den r (K.mix l a y)=if a v then K.den p.hi (K.mix l a y) else K.den p.lo (K.mix l a y):=fun y=>by
            rw [KV.den_node hk.wf hk.ord h2 hp hpt,show p.var.toNat=v by omega,em]
          cases ha:a v with
          | true =>
            obtain ⟨x,tx,hx⟩:=KV.sub_live hk l a n p.hi (by omega) h4;exact ⟨x,tx,fun y=>by rw [hx,e,ha]; simp⟩
          | false =>
            obtain ⟨x,tx,hx⟩:=KV.sub_live hk l a n p.lo (by omega) h3;exact ⟨x,tx,fun y=>by rw [hx,e,ha]; simp⟩
      · refine ⟨r,ht,fun y=>?_⟩
        rw [K.den_const (by omega),K.den_const (by omega)]
theorem KV.fit_live {K0:KV} (h0:K0.Ok) {t:(Nat→Bool)→Bool} {r:Nat} (ht:K0.A.tk r=true) (hd:∀ x,K0.den r x=t x):¬ NoFit K0 (K0.SubN t):=by
  rintro ⟨K,M,g,hk,hu,R,hus,⟨l,a,hg⟩,hno⟩;obtain ⟨x,tx,hx⟩:=KV.sub_live h0 l a _ r (Nat.le_refl _) ht
  refine hno x (R.ext.tk tx) fun y=>?_
  rw [R.ext.den h0.wf y tx,hx,hd,hg]
theorem OpR.live {K0 K':KV} (h0:K0.Ok) (h':K'.Ok) (u':K'.Uni) {t:(Nat→Bool)→Bool} {s r:Nat} {code:Int} (O:OpR K0 t r code K') (u0:K0.Uni) (ht:K0.A.tk s=true) (hd:∀ x,K0.den s x=t x) (hh:K0.hold s < 65535) :
    code=0∧r=s∧OpOk K0 t s K':=by
  rcases O with ⟨rfl,hO⟩ | ⟨_,_,_,s',t',d',f'⟩ | ⟨_,_,_,hno⟩
  · have:r=s:=KV.canon h'.wf h'.ord u' _ _ _ hO.tk (hO.ext.tk ht) (Nat.le_refl _) fun x=>by rw [hO.den,hO.ext.den h0.wf x ht,hd]
    subst this;exact ⟨rfl,rfl,hO⟩
  · exfalso
    have:s'=s:=KV.canon h0.wf h0.ord u0 _ _ _ t' ht (Nat.le_refl _) fun x=>by rw [d',hd]
    subst this;omega
  · exact (KV.fit_live h0 ht hd hno).elim
theorem OpOk.same {K0 K':KV} (h0:K0.Ok) (h':K'.Ok) (u':K'.Uni) {t:(Nat→Bool)→Bool} {s r:Nat} (O:OpOk K0 t r K') (ht:K0.A.tk s=true) (hd:∀ x,K0.den s x=t x) (x:Nat):K'.A.tk x=true↔K0.A.tk x=true:=by
  refine ⟨fun hx=>?_,fun hx=>O.ext.tk hx⟩
  cases h:K0.A.tk x with
  | true=>rfl
  | false =>
    exfalso
    obtain ⟨l,a,hg⟩:=O.new x hx h;obtain ⟨z,tz,hz⟩:=KV.sub_live h0 l a _ s (Nat.le_refl _) ht
    have:x=z:=KV.canon h'.wf h'.ord u' _ _ _ hx (O.ext.tk tz) (Nat.le_refl _) fun y=>by rw [hg,O.ext.den h0.wf y tz,hz,hd]
    subst this
    rw [h] at tz; cases tz
end Go.Proofs.YtpfafhmkbcahhaaGreat
namespace Go.Proofs.YtpfafhmkbcahhaaGreat
open Go.RowKit Go.Maps Go.ChangeMaps Go.WideShapes
theorem flatN_set (l:List Nat) (r n:Nat):(flatN l).set r (.int .i64 n)=flatN (l.set r n):=by simp [flatN,List.map_set]
theorem KerMem.setOrder {w:World} {b g n' c r n:Nat} {K:KV} {T:List DM} {q:KPtr} (h:KerMem w b K T q) (hq:q.ov=.slice (some ⟨g,0,none⟩) n' c) (hr:r < K.order.length) :
    KerMem (w.setCell ⟨g,r,none⟩ (.int .i64 n)) b { K with order:=K.order.set r n } T q:=by
  have hg:q.o g=5:=h.oo g (by rw [hq]; rfl)
  have hne:∀ {k c},q.o k=c→c≠5→k≠g:=fun {k c} hk hc hm=>hc (by rw [← hk,hm,hg])
  have hk:∀ {k c},q.o k=c→c≠5→(w.setCell ⟨g,r,none⟩ (.int .i64 n)).heap[k]?=w.heap[k]?:=fun hk hc=>heap_set_ne (hne hk hc)
  refine ⟨by rw [hk h.ob (by omega)]; exact h.blk,h.ar.keep fun k hm=>hk (h.oa k hm) (by omega),h.tab.keep fun k hm=>hk (h.ot k hm) (by omega),row_keep h.us fun k hm=>hk (h.ou k hm) (by omega),
    row_keep h.hs fun k hm=>hk (h.oh k hm) (by omega),?_,row_keep h.ls fun k hm=>hk (h.ol k hm) (by omega),row_keep h.ts fun k hm=>hk (h.ox k hm) (by omega),
    h.ob,h.oa,h.ot,h.ou,h.oh,h.oo,h.ol,h.ox⟩
  have hu:=h.os;rw [hq] at hu ⊢;have:=row_set hu (j:=r) (by omega) (.int .i64 n);rw [flatN_set] at this
  simpa using this
theorem KerMem.setLevel {w:World} {b g n' c r n:Nat} {K:KV} {T:List DM} {q:KPtr} (h:KerMem w b K T q) (hq:q.lv=.slice (some ⟨g,0,none⟩) n' c) (hr:r < K.level.length) :
    KerMem (w.setCell ⟨g,r,none⟩ (.int .i64 n)) b { K with level:=K.level.set r n } T q:=by
  have hg:q.o g=6:=h.ol g (by rw [hq]; rfl)
  have hne:∀ {k c},q.o k=c→c≠6→k≠g:=fun {k c} hk hc hm=>hc (by rw [← hk,hm,hg])
  have hk:∀ {k c},q.o k=c→c≠6→(w.setCell ⟨g,r,none⟩ (.int .i64 n)).heap[k]?=w.heap[k]?:=fun hk hc=>heap_set_ne (hne hk hc)
  refine ⟨by rw [hk h.ob (by omega)]; exact h.blk,h.ar.keep fun k hm=>hk (h.oa k hm) (by omega),h.tab.keep fun k hm=>hk (h.ot k hm) (by omega),row_keep h.us fun k hm=>hk (h.ou k hm) (by omega),
    row_keep h.hs fun k hm=>hk (h.oh k hm) (by omega),row_keep h.os fun k hm=>hk (h.oo k hm) (by omega),?_,row_keep h.ts fun k hm=>hk (h.ox k hm) (by omega),
    h.ob,h.oa,h.ot,h.ou,h.oh,h.oo,h.ol,h.ox⟩
  have hu:=h.ls;rw [hq] at hu ⊢;have:=row_set hu (j:=r) (by omega) (.int .i64 n);rw [flatN_set] at this
  simpa using this
theorem KerMem.growTrail {w w5:World} {b g5 cap l:Nat} {X:Obj} {K:KV} {T:List DM} {q:KPtr} (h:KerMem w b K T q) (hg:(w.alloc X).grownBy w5 q.tv.ownBlock) (hat:q.tv.ownBlock=some g5∨g5=w.heap.size + 1)
    (hown:w5.ownsRow 0 3 1 (.slice (some ⟨g5,0,none⟩) (K.trail.length + 1) cap) (K.trail.length + 1) (flatN K.trail ++ [.int .i64 l])) :
    KerMem (w5.setCell ⟨b,7,none⟩ (.slice (some ⟨g5,0,none⟩) (K.trail.length + 1) cap)) b { K with trail:=K.trail ++ [l] } T { q with tv:=.slice (some ⟨g5,0,none⟩) (K.trail.length + 1) cap,o:=retag q w.heap.size 7 }:=by
  have hb:=heap_lt h.blk
  have hbg:b≠g5:=by
    rcases hat with e | e
    · rintro rfl; have e1:=h.ob; have e2:=h.ox b e; omega
    · omega
  have keep:∀ {k c:Nat},q.o k=c→c≠7→c≠0→k < w.heap.size→(w5.setCell ⟨b,7,none⟩ (.slice (some ⟨g5,0,none⟩) (K.trail.length + 1) cap)).heap[k]?=w.heap[k]?:=by
    intro k c hk hc h0 hl
    rw [heap_set_ne (by rintro rfl; exact h0 (hk ▸ h.ob)),hg.block k (by rw [World.size_alloc]; omega) (fun e=>hc (hk ▸ h.ox k e.symm)),Below.heap_alloc _ _ _ hl]
  have hbk:w5.heap[b]?=w.heap[b]?:=by
    rw [hg.block b (by rw [World.size_alloc]; omega) (fun e=>by have e1:=h.ob; have e2:=h.ox b e.symm; omega),Below.heap_alloc _ _ _ hb]
  rw [h.blk] at hbk
  refine ⟨by rw [heap_set_eq hbk]; simp,h.ar.keep fun k hm=>keep (h.oa k hm) (by omega) (by omega) (h.ar.lt k hm),h.tab.keep fun k hm=>keep (h.ot k hm) (by omega) (by omega) (h.tab.lt k hm),
    row_keep h.us fun k hm=>keep (h.ou k hm) (by omega) (by omega) (h.us.lt k hm).2,row_keep h.hs fun k hm=>keep (h.oh k hm) (by omega) (by omega) (h.hs.lt k hm).2,row_keep h.os fun k hm=>keep (h.oo k hm) (by omega) (by omega) (h.os.lt k hm).2,row_keep h.ls fun k hm=>keep (h.ol k hm) (by omega) (by omega) (h.ls.lt k hm).2,?_,?_,?_,?_,?_,?_,?_,?_,?_⟩
  · show World.ownsRow _ 0 _ 1 _ (K.trail ++ [l]).length (flatN (K.trail ++ [l]))
    have e:=row_ne hown (a:=⟨b,7,none⟩) (by simpa [Value.ownBlock] using hbg) (.slice (some ⟨g5,0,none⟩) (K.trail.length + 1) cap)
    simpa [flatN] using e
  · show retag q _ _ b=0
    rw [retag_old hb]; exact h.ob
  · intro k hk; show retag q _ _ k=1; rw [retag_old (h.ar.lt k hk)]; exact h.oa k hk
  · intro k hk; show retag q _ _ k=2; rw [retag_old (h.tab.lt k hk)]; exact h.ot k hk
  · intro k hk; show retag q _ _ k=3; rw [retag_old (h.us.lt k hk).2]; exact h.ou k hk
  · intro k hk; show retag q _ _ k=4; rw [retag_old (h.hs.lt k hk).2]; exact h.oh k hk
  · intro k hk; show retag q _ _ k=5; rw [retag_old (h.os.lt k hk).2]; exact h.oo k hk
  · intro k hk; show retag q _ _ k=6; rw [retag_old (h.ls.lt k hk).2]; exact h.ol k hk
  · intro k hk
    simp [Value.ownBlock] at hk; subst hk
    show retag q _ _ g5=7
    rcases hat with e | e
    · rw [retag_old (h.ts.lt g5 e).2]; exact h.ox g5 e
    · unfold retag; rw [if_pos (by omega)]
def KV.swapK (K:KV) (l:Nat):KV:={ K with order:=(K.order.set l (K.order.getD (l + 1) 0)).set (l + 1) (K.order.getD l 0),level:=(K.level.set (K.order.getD l 0) (l + 1)).set (K.order.getD (l + 1) 0) l }
theorem getD_eq_some {l:List Nat} {i:Nat} (h:i < l.length):l[i]?=some (l.getD i 0):=by
  rw [List.getD_eq_getElem?_getD,List.getElem?_eq_getElem h]; rfl
theorem KV.Perm.swap {K:KV} (h:K.Perm) {l:Nat} (hl:l + 2≤K.vars):(K.swapK l).Perm∧(∀ j,(K.swapK l).order.getD j 0=if j=l + 1 then K.order.getD l 0 else if j=l then K.order.getD (l + 1) 0 else K.order.getD j 0) ∧
    ∀ v,(K.swapK l).lev v=if v=K.order.getD (l + 1) 0 then l else if v=K.order.getD l 0 then l + 1 else K.lev v:=by
  have hx:=h.oo l (by omega);have hy:=h.oo (l + 1) (by omega);have hol:=h.ol;have hll:=h.ll
  have ho:∀ j,(K.swapK l).order.getD j 0=if j=l + 1 then K.order.getD l 0 else if j=l then K.order.getD (l + 1) 0 else K.order.getD j 0:=fun j=>by
    simp only [KV.swapK]
    rw [getD_set (by rw [List.length_set]; omega),getD_set (by omega)]
  have hv:∀ v,(K.swapK l).lev v=if v=K.order.getD (l + 1) 0 then l else if v=K.order.getD l 0 then l + 1 else K.lev v:=fun v=>by
    simp only [KV.swapK,KV.lev]
    rw [getD_set (by rw [List.length_set]; omega),getD_set (by omega)]
  have hne:K.order.getD l 0≠K.order.getD (l + 1) 0:=fun e=>by rw [e] at hx; omega
  refine ⟨⟨by simpa [KV.swapK] using hol,by simpa [KV.swapK] using hll,fun v hvl=>?_,fun j hj=>?_⟩,ho,hv⟩
  · have hl1:=h.lo v hvl
    rw [hv]
    by_cases e1:v=K.order.getD (l + 1) 0
    · rw [if_pos e1,ho,if_neg (by omega),if_pos rfl]
      exact ⟨by show l < K.vars; omega,e1.symm⟩
    · rw [if_neg e1]
      by_cases e2:v=K.order.getD l 0
      · rw [if_pos e2,ho,if_pos rfl]
        exact ⟨by show l + 1 < K.vars; omega,e2.symm⟩
      · rw [if_neg e2,ho]
        have n1:K.lev v≠l + 1:=fun e=>e1 (by rw [← hl1.2,e])
        have n2:K.lev v≠l:=fun e=>e2 (by rw [← hl1.2,e])
        rw [if_neg n1,if_neg n2]; exact hl1
  · have hj':j < K.vars:=hj
    have hj1:=h.oo j hj';rw [ho]
    by_cases e1:j=l + 1
    · rw [if_pos e1,hv,if_neg hne,if_pos rfl]
      exact ⟨hx.1,e1.symm⟩
    · rw [if_neg e1]
      by_cases e2:j=l
      · rw [if_pos e2,hv,if_pos rfl]
        exact ⟨hy.1,e2.symm⟩
      · rw [if_neg e2,hv]
        have n1:K.order.getD j 0≠K.order.getD (l + 1) 0:=fun e=>by rw [e] at hj1; omega
        have n2:K.order.getD j 0≠K.order.getD l 0:=fun e=>by rw [e] at hj1; omega
        rw [if_neg n1,if_neg n2]; exact hj1
theorem KV.bare_tk {K:KV} (hw:K.Wf []) (h:K.A.used=2) {r:Nat} (ht:K.A.tk r=true):r < 2:=by
  by_cases h2:r < 2
  · exact h2
  · have h01:=hw.ok.tk01
    have:=K.used_ge hw (l:=[0,1,r]) (by simp; omega) (fun x hx=>by
      simp at hx
      rcases hx with rfl | rfl | rfl
      · exact h01.1
      · exact h01.2
      · exact ht)
    simp at this; omega
theorem TInv.bare {T:List DM} {K:KV} {X:List Nat} (h:TInv T K X) (hw:K.Wf []) (hb:K.A.used=2) {v:Nat} {D:DM} (hv:T[v]?=some D) (k:Lit):Maps.has D k=false:=by
  cases e:Maps.has D k with
  | false=>rfl
  | true =>
    obtain ⟨r,p,h2,hp,hpt,_⟩:=h.dom v D k hv e;have:=KV.bare_tk hw hb (ArenaV.tk_iff.2 ⟨p,hp,hpt⟩);omega
theorem KV.Ok.swap_bare {K:KV} (h:K.Ok) (hb:K.A.used=2) {l:Nat} (hl:l + 2≤K.vars):(K.swapK l).Ok:=by
  have hw:=h.wf
  have no:∀ (q:Nat) (p:PlaceV),2≤q→K.A.list[q]?=some p→p.taken=true→False:=fun q p h2 hp hpt=>by
    have:=KV.bare_tk hw hb (ArenaV.tk_iff.2 ⟨p,hp,hpt⟩); omega
  refine ⟨⟨hw.ok,hw.len,hw.ul,hw.tu,hw.ht,hw.hm,hw.eq,hw.pt,hw.cl,hw.vr,hw.vs⟩,h.pos,⟨(h.ord.pm.swap hl).1,fun q p h2 hp hpt=>(no q p h2 hp hpt).elim,fun q p h2 hp hpt=>(no q p h2 hp hpt).elim⟩,h.tl⟩
end Go.Proofs.YtpfafhmkbcahhaaGreat
namespace Go.Proofs.YtpfafhmkbcahhaaGreat
open Go.RowKit Go.Maps Go.ChangeMaps Go.WideShapes
def CrV.flat (x:Nat) (c:CrV):List Value:=[.int .u32 c.r,.int .i64 x,.int .u32 c.lo,.int .u32 c.hi,.int .u32 c.a00,.int .u32 c.a01,.int .u32 c.a10,.int .u32 c.a11]
def flatC (x:Nat) (C:List CrV):List Value:=C.flatMap (CrV.flat x)
theorem flatC_get (x:Nat):∀ (C:List CrV) (i:Nat) (c:CrV),C[i]?=some c→∀ k,k < 8→(flatC x C)[i * 8 + k]?=(c.flat x)[k]?
  | [],i,c,h,_,_=>by simp at h
  | d :: C,0,c,h,k,hk=>by
    simp at h; subst h
    show ((d.flat x) ++ flatC x C)[0 * 8 + k]?=_
    rw [List.getElem?_append_left (by simp [CrV.flat]; omega)]
    congr 1; omega
  | d :: C,i + 1,c,h,k,hk=>by
    have ih:=flatC_get x C i c (by simpa using h) k hk
    show ((d.flat x) ++ flatC x C)[(i + 1) * 8 + k]?=_
    rw [List.getElem?_append_right (by simp [CrV.flat]; omega),← ih]
    congr 1; simp [CrV.flat]; omega
def CrV.R32 (c:CrV):Prop:=c.r≤4294967295∧c.lo≤4294967295∧c.hi≤4294967295∧c.a00≤4294967295∧c.a01≤4294967295∧c.a10≤4294967295∧c.a11≤4294967295
theorem own_emptyM {W:World} {mb:Nat} (h:W.heap[mb]?=some (.map #[] 0)):W.ownsMap Tryz.prog 115 (plainElem (H:=Unit) Tryz.prog 3) mb 0 (.map []):=by
  obtain ⟨es,clock,q1,q2,q3,q4⟩:=World.ownsMap_made W Tryz.prog 115 (plainElem (H:=Unit) Tryz.prog 3);rw [heap_alloc_new] at q1;cases q1;exact ⟨#[],0,h,q2,Nat.zero_le _,rfl⟩
structure MadeOk (x:Nat) (N:List (Nat × Nat)) (D:DM):Prop where
  im:IsMap D
  has:∀ k,Maps.has D k=true↔∃ q,q∈N∧k=nk x q.1 q.2
  sz:Maps.size D=N.length
  ub:∀ q,q∈N→q.1≤4294967295∧q.2≤4294967295
theorem MadeOk.nil (x:Nat):MadeOk x [] (.map []):=⟨isMap_empty,fun k=>by simp [Maps.has],rfl,by simp⟩
theorem MadeOk.mem {x:Nat} {N:List (Nat × Nat)} {D:DM} (h:MadeOk x N D) (hx:x≤64) {a d:Nat} (ha:a≤4294967295) (hd:d≤4294967295):Maps.has D (nk x a d)=true↔(a,d)∈N:=by
  rw [h.has];constructor
  · rintro ⟨q,hq,e⟩
    have hu:=h.ub q hq;obtain ⟨_,e1,e2⟩:=nk_inj (wfI (by omega) (by omega)) (wfR ha) (wfR hd) (wfI (by omega) (by omega)) (wfR hu.1) (wfR hu.2) e;have:q=(a,d):=Prod.ext e1.symm e2.symm
    rw [← this]; exact hq
  · intro hq; exact ⟨(a,d),hq,rfl⟩
theorem MadeOk.again {x:Nat} {N:List (Nat × Nat)} {D:DM} (h:MadeOk x N D) (hx:x≤64) (ht:Tidy D) {a d:Nat} (ha:a≤4294967295) (hd:d≤4294967295) (hm:(a,d)∈N) (v:DataW Unit):MadeOk x N (D.put (nk x a d) v):=by
  refine ⟨h.im.put _ _,fun k=>?_,?_,h.ub⟩
  · by_cases e:k=nk x a d
    · subst e
      rw [has_put_same h.im (nk_isKey _ _ _)];exact ⟨fun _=>⟨(a,d),hm,rfl⟩,fun _=>rfl⟩
    · rw [has_put_other e]; exact h.has k
  · rw [size_put ht,if_pos ((h.mem hx ha hd).2 hm)]; exact h.sz
theorem MadeOk.new {x:Nat} {N:List (Nat × Nat)} {D:DM} (h:MadeOk x N D) (hx:x≤64) (ht:Tidy D) {a d:Nat} (ha:a≤4294967295) (hd:d≤4294967295) (hm:(a,d)∉N) (v:DataW Unit):MadeOk x (N ++ [(a,d)]) (D.put (nk x a d) v):=by
  refine ⟨h.im.put _ _,fun k=>?_,?_,fun q hq=>?_⟩
  · by_cases e:k=nk x a d
    · subst e
      rw [has_put_same h.im (nk_isKey _ _ _)];exact ⟨fun _=>⟨(a,d),by simp,rfl⟩,fun _=>rfl⟩
    · rw [has_put_other e,h.has]
      constructor
      · rintro ⟨q,hq,rfl⟩; exact ⟨q,by simp [hq],rfl⟩
      · rintro ⟨q,hq,rfl⟩
        rcases List.mem_append.1 hq with hq | hq
        · exact ⟨q,hq,rfl⟩
        · simp at hq; subst hq; exact absurd rfl e
  · have hno:Maps.has D (nk x a d)≠true:=fun e=>hm ((h.mem hx ha hd).1 e)
    rw [size_put ht,if_neg hno,h.sz]; simp
  · rcases List.mem_append.1 hq with hq | hq
    · exact h.ub q hq
    · simp at hq; subst hq; exact ⟨ha,hd⟩
structure FreshQ (x:Nat) (K:KV) (C:List CrV) (w:World) (e:Ending) (w':World):Prop where
  ex:∃ N:List (Nat × Nat),e=.returned (.int .i64 N.length)∧FrN K x (C.flatMap CrV.qs) N∧Upd [] w w'
structure FreshR (w:World) (x mb:Nat) (K:KV) (Q:List (Nat × Nat)) (wr:World):Prop where
  ex:∃ (N:List (Nat × Nat)) (D:DM),FrN K x Q N∧MadeOk x N D∧wr.ownsMap Tryz.prog 115 (plainElem (H:=Unit) Tryz.prog 3) mb (Maps.size D) D
  up:Upd [] w wr
theorem FreshR.keep {w wr w2:World} {x mb:Nat} {K:KV} {Q:List (Nat × Nat)} (h:FreshR w x mb K Q wr) (u:Upd [] wr w2):FreshR w x mb K Q w2:=by
  obtain ⟨N,D,h1,h2,h3⟩:=h.ex;exact ⟨⟨N,D,h1,h2,own_keep h3 (u.block _ h3.lt (by simp))⟩,h.up.trans u⟩
theorem FreshR.skip {w wr:World} {x mb:Nat} {K:KV} {Q:List (Nat × Nat)} {q:Nat × Nat} (h:FreshR w x mb K Q wr) (hq:q.1=q.2∨K.has3 x q.1 q.2):FreshR w x mb K (Q ++ [q]) wr:=by
  obtain ⟨N,D,h1,h2,h3⟩:=h.ex;exact ⟨⟨N,D,h1.skip (hq.imp id .inl),h2,h3⟩,h.up⟩
theorem zeroIntM (w:World):(zeroValue 3).run Tryz.prog w=.ok (.int .i64 0) w:=by kernel_rfl
theorem nodeLaw:WideMaps.KeyLaw Tryz.prog 115:=deep_law_gate laidOut (of_decide_eq_true (by kernel_rfl)) (of_decide_eq_true (by kernel_rfl)) (by kernel_rfl) (by kernel_rfl)
theorem turned_keep {W:World} {b:Nat} {es es1:Array MapEntry} {clock clock1:Nat} (hb:W.heap[b]?=some (.map es clock)):Upd [b] W (setBlock W b (.map es1 clock1)):=upd_turned ⟨es,clock,es1,clock1,hb,rfl⟩
open Go.MapKept in
theorem own_bump {W:World} {mb n:Nat} {D:DM} {key:Value} {kl:Lit} (h:W.ownsMap Tryz.prog 115 (plainElem (H:=Unit) Tryz.prog 3) mb n D) (hn:n < maxLen) (hkey:keyOf Tryz.prog 115 key=some kl) :
    ∃ (c0:Int) (st:Value) (W1:World),(Instr.lookup 312 (.map (some mb)) key false).run Tryz.prog W=.ok (.int .i64 c0) W∧(Instr.lookup 312 (.map (some mb)) key false).run Tryz.prog W1=.ok (.int .i64 c0) W1 ∧
      (Instr.mapEntry 312 (.map (some mb)) key).run Tryz.prog W=.ok (.tuple #[.int .i64 c0,st]) W1∧Upd [mb] W W1 ∧
      ∀ c:Int,(Lit.int .i64 c).wf=true→∃ W2,(Instr.entryStore 312 (.map (some mb)) st (.int .i64 c)).run Tryz.prog W1=.ok () W2∧W2.ownsMap Tryz.prog 115 (plainElem (H:=Unit) Tryz.prog 3) mb (n + 1) (D.put kl (.lit (.int .i64 c)))∧Upd [mb] W W2:=by
  obtain ⟨c0,hrun,hat,hwc⟩:=h.lookup_int nodeKeyed Tryz.underlying312 Tryz.underlying3 (zeroIntM _) hkey;have h':=h;obtain ⟨es,clock,hb,F,hs,hDD⟩:=h
  have hz:=fun u:World=>zeroIntM u
  obtain ⟨v0,st,es1,clock1,hE,_,hS⟩:=WideElems.entry_then_store nodeLaw Tryz.underlying312 hz hb F hkey;have hb1:(setBlock W mb (.map es1 clock1)).heap[mb]?=some (.map es1 clock1):=heap_setBlock_same hb _
  have hmid:v0=.int .i64 c0∧(Instr.lookup 312 (.map (some mb)) key false).run Tryz.prog (setBlock W mb (.map es1 clock1))=.ok (.int .i64 c0) (setBlock W mb (.map es1 clock1)):=by
    rcases nodeKeyed.find W hkey es.toList F.keys with ⟨h1,h2⟩ | ⟨j,e0,h1,h2,h3⟩
    · have hl:(Instr.lookup 312 (.map (some mb)) key false).run Tryz.prog W=.ok (.int .i64 0) W:=by
        simp [Instr.lookup,run_underlying Tryz.underlying312,MapKept.run_getObj_map hb,nodeKeyed.check W _ hkey,h1,hz,Result.andThen]
      have hc0:c0=0:=by
        rw [hrun] at hl
        simpa using hl
      have he:(Instr.mapEntry 312 (.map (some mb)) key).run Tryz.prog W=.ok (.tuple #[.int .i64 0,goInt clock]) (setBlock W mb (.map (es.push ⟨key,.int .i64 0,clock⟩) (clock + 1))):=by
        simp [Instr.mapEntry,run_underlying Tryz.underlying312,MapKept.run_getObj_map hb,nodeKeyed.check W false hkey,h1,hz,MapKept.run_setObj_map _ hb,Result.andThen,setBlock]
      have hup:(Instr.mapUpdate 312 (.map (some mb)) key (.int .i64 0)).run Tryz.prog W=.ok () (setBlock W mb (.map (es.push ⟨key,.int .i64 0,clock⟩) (clock + 1))):=by
        simp [Instr.mapUpdate,run_underlying Tryz.underlying312,MapKept.run_getObj_map hb,nodeKeyed.check W false hkey,h1,MapKept.run_setObj_map _ hb,Result.andThen,setBlock]
      rw [hE] at he
      simp only [Result.ok.injEq,Value.tuple.injEq] at he
      obtain ⟨e1,e2⟩:=he
      have e3:v0=.int .i64 0:=by have:=congrArg (fun a:Array Value=>a[0]?) e1; simpa using this
      refine ⟨by rw [e3,hc0],?_⟩;obtain ⟨w9,hrunU,hown,_⟩:=h'.store nodeKeyed Tryz.underlying312 hn hkey (plainElem_int (H:=Unit) Tryz.underlying3 (wfI (n:=0) (by omega) (by omega)));rw [hup] at hrunU
      simp only [Result.ok.injEq,true_and] at hrunU
      rw [e2,hc0,hrunU];obtain ⟨es9,clock9,hb9,F9,_,_⟩:=hown
      have hb8:w9.heap[mb]?=some (.map (es.push ⟨key,.int .i64 0,clock⟩) (clock + 1)):=by rw [← hrunU]; exact heap_setBlock_same hb _
      rw [hb8] at hb9
      simp only [Option.some.injEq,Obj.map.injEq] at hb9
      obtain ⟨rfl,rfl⟩:=hb9
      rcases Maps.fit_look false nodeKeyed Tryz.underlying312 (zeroIntM w9) hb8 F9 hkey with ⟨hr,_,_⟩ | ⟨x,y,hm,hk,hr,_⟩
      · simpa using hr
      · simp only [Array.toList_push,List.mem_append,List.mem_singleton] at hm
        rcases hm with hm | rfl
        · exact absurd hk (h2 x hm)
        · simpa using hr
    · have hj:es[j]?=some e0:=by simpa using h2
      have hl:(Instr.lookup 312 (.map (some mb)) key false).run Tryz.prog W=.ok e0.val W:=by
        simp [Instr.lookup,run_underlying Tryz.underlying312,MapKept.run_getObj_map hb,nodeKeyed.check W _ hkey,h1,Result.andThen]
      have hsame:es.modify j (fun e=>{ e with key:=key })=es:=by
        apply Array.ext'
        rw [Array.toList_modify,modify_eq_set _ _ _ _ h2]
        have:({ e0 with key:=key }:MapEntry)=e0:=by rw [← h3]
        rw [this];exact WideElems.set_self _ _ _ h2
      have he:(Instr.mapEntry 312 (.map (some mb)) key).run Tryz.prog W=.ok (.tuple #[e0.val,goInt e0.born]) (setBlock W mb (.map es clock)):=by
        simp [Instr.mapEntry,run_underlying Tryz.underlying312,MapKept.run_getObj_map hb,nodeKeyed.check W false hkey,h1,hj,h3,nodeKeyed.stays W hkey,hsame,MapKept.run_setObj_map _ hb,Result.andThen,setBlock]
      have hself:setBlock W mb (.map es clock)=W:=by
        have hlt:=heap_lt hb
        have:W.heap.setIfInBounds mb (.map es clock)=W.heap:=by
          apply Array.ext_getElem?
          intro k
          by_cases e:mb=k
          · subst e; rw [Array.getElem?_setIfInBounds_self_of_lt hlt,hb]
          · rw [Array.getElem?_setIfInBounds_ne e]
        unfold setBlock;rw [this]
      rw [hE] at he
      simp only [Result.ok.injEq,Value.tuple.injEq] at he
      obtain ⟨e1,e2⟩:=he
      have e3:v0=e0.val:=by have:=congrArg (fun a:Array Value=>a[0]?) e1; simpa using this
      rw [hrun] at hl
      simp only [Result.ok.injEq,and_true] at hl
      refine ⟨by rw [e3,hl],?_⟩
      rw [e2,hself]; exact hrun
  refine ⟨c0,goInt st,setBlock W mb (.map es1 clock1),hrun,hmid.2,by rw [← hmid.1]; exact hE,turned_keep hb,fun c hc=>?_⟩;obtain ⟨es2,clock2,hS2,hU2⟩:=hS (setBlock W mb (.map es1 clock1)) (.int .i64 c) hb1;obtain ⟨w9,hrunU,hown,_⟩:=h'.store nodeKeyed Tryz.underlying312 hn hkey (plainElem_int (H:=Unit) Tryz.underlying3 hc);rw [hU2] at hrunU
  simp only [Result.ok.injEq,true_and] at hrunU
  refine ⟨_,hS2,own_keep hown ?_,(turned_keep hb).trans (turned_keep hb1)⟩;rw [← hrunU,heap_setBlock_same hb1 _,heap_setBlock_same hb _]
theorem FreshR.put {w wr w9:World} {x mb a d:Nat} {K:KV} {Q N:List (Nat × Nat)} {D:DM} {v:DataW Unit} (hu:Upd [] w wr) (h1:FrN K x Q N) (h2:MadeOk x N D) (hx:x≤64) (ht:Tidy D) (ha:a≤4294967295) (hd:d≤4294967295) (hne:a≠d) (hno:¬ K.has3 x a d)
    (hmb:w.heap.size≤mb) (hown:w9.ownsMap Tryz.prog 115 (plainElem (H:=Unit) Tryz.prog 3) mb (Maps.size (D.put (nk x a d) v)) (D.put (nk x a d) v)) (h9:Upd [mb] wr w9):FreshR w x mb K (Q ++ [(a,d)]) w9:=by
  have hu9:Upd [] w w9:=hu.then h9 fun k hk=>.inr (by simp at hk; omega)
  by_cases hm:(a,d)∈N
  · exact ⟨⟨N,_,h1.skip (.inr (.inr hm)),h2.again hx ht ha hd hm v,hown⟩,hu9⟩
  · exact ⟨⟨_,_,h1.add hne hno hm,h2.new hx ht ha hd hm v,hown⟩,hu9⟩
set_option maxRecDepth 100000 in
set_option maxHeartbeats 3200000 in
theorem fresh_spec (b x:Nat) (K:KV) (T:List DM) (q:KPtr) (C:List CrV) (la:Option Addr) (lc base:Nat) (w:World) (h:KerIn w b K T q) (hx:x < K.vars) (hC:∀ c,c∈C→c.R32) (hl:C.length≤1048576)
    (hr:w.ownsRow base 276 8 (.slice la C.length lc) C.length (flatC x C)) :
    Calls Tryz.prog 204 #[.pointer (some ⟨b,0,none⟩),.int .i64 x,.slice la C.length lc] w fun e w'=>FreshQ x K C w e w':=by
  have hmm:=@run_makeMap Tryz.prog;have hvs:=h.ok.wf.vs;have hlen:=h.ti.len;have hD:T[x]?=some (T[x]'(by omega)):=List.getElem?_eq_getElem (by omega);generalize T[x]'(by omega)=DX at hD;have HM0:Hid (FreshR w x w.heap.size K [] (w.alloc (.map #[] 0))):=⟨⟨[],.map [],FrN.nil K x,MadeOk.nil x,own_emptyM (heap_alloc_new w _)⟩,(Upd.refl [] w).alloc _⟩
  have HK:Hid (∀ y:World,Upd [] w y→KerIn y b K T q):=fun y u=>h.upd u (by simp)
  have HR:Hid (∀ y:World,Upd [] w y→y.ownsRow base 276 8 (.slice la C.length lc) C.length (flatC x C)):=fun y u=>row_keep hr fun k hk=>u.block k (hr.lt k hk).2 (by simp)
  have HC:=Lib.hid hC;have HD:=Lib.hid hD;have HW:=Lib.hid (And.intro h.ok.wf h.ti)
  have hkb:Hid (∀ y:World,Upd [] w y→y.cell? ⟨b,1,none⟩=some (.pointer (some ⟨q.t,0,none⟩))):=fun y u=>u.cellK (cell_at h.mem.blk rfl)
  clear h hr hC hD hlen
  go_enter Tryz.func204,Tryz.ntmps204
  go_wp2_with fail
  go_loopg [17] C.length (fun gg s17 wr=>∃ i:Nat,C.length - i=gg∧i≤C.length∧s17=.int .i64 i∧FreshR w x w.heap.size K ((C.take i).flatMap CrV.qs) wr)
  case atStart=>exact ⟨0,by omega,by omega,rfl,by simpa using HM0.out⟩
  case round =>
    obtain ⟨i,rfl,hi,rfl,hF⟩:=hrel
    by_cases hlt:i < C.length
    · obtain ⟨c,hc⟩ : ∃ c,C[i]?=some c:=⟨_,List.getElem?_eq_getElem hlt⟩
      have hrow:=HR.out wr hF.up;obtain ⟨gl,rfl⟩:=row_some hrow (by omega);have hg:=flatC_get x C i c hc;have c0:=row_cell hrow (j:=i * 8 + 0) (u:=.int .u32 c.r) (by rw [hg 0 (by omega)]; rfl);have c1:=row_cell hrow (j:=i * 8 + 1) (u:=.int .i64 x) (by rw [hg 1 (by omega)]; rfl);have c2:=row_cell hrow (j:=i * 8 + 2) (u:=.int .u32 c.lo) (by rw [hg 2 (by omega)]; rfl);have c3:=row_cell hrow (j:=i * 8 + 3) (u:=.int .u32 c.hi) (by rw [hg 3 (by omega)]; rfl);have c4:=row_cell hrow (j:=i * 8 + 4) (u:=.int .u32 c.a00) (by rw [hg 4 (by omega)]; rfl);have c5:=row_cell hrow (j:=i * 8 + 5) (u:=.int .u32 c.a01) (by rw [hg 5 (by omega)]; rfl);have c6:=row_cell hrow (j:=i * 8 + 6) (u:=.int .u32 c.a10) (by rw [hg 6 (by omega)]; rfl);have c7:=row_cell hrow (j:=i * 8 + 7) (u:=.int .u32 c.a11) (by rw [hg 7 (by omega)]; rfl);rw [Nat.add_zero] at c0
      have hil:(i:Int) < (C.length:Int):=by omega
      have hc32:=HC.out c (List.mem_of_getElem? hc);have HCI:=Lib.hid (And.intro hc hc32);have HF:=Lib.hid hF;have hbx:=heap_alloc_new wr (.cells #[.int .u32 c.r,.int .i64 x,.int .u32 c.lo,.int .u32 c.hi,.int .u32 c.a00,.int .u32 c.a01,.int .u32 c.a10,.int .u32 c.a11] 276 (0,0));have z0:=cell_at (j:=0) hbx rfl;have z4:=cell_at (j:=4) hbx rfl;have z5:=cell_at (j:=5) hbx rfl;have z6:=cell_at (j:=6) hbx rfl;have z7:=cell_at (j:=7) hbx rfl;clear hF hrow hg hc hbx hc32;go_wp2_with fail;obtain ⟨wI,hwI⟩ : ∃ wI,((wr.alloc (.cells #[.int .u32 c.r,.int .i64 x,.int .u32 c.lo,.int .u32 c.hi,.int .u32 c.a00,.int .u32 c.a01,.int .u32 c.a10,.int .u32 c.a11] 276 (0,0))).alloc (.cells #[.int .i64 x,.int .u32 c.a00,.int .u32 c.a10,.int .i64 x,.int .u32 c.a01,.int .u32 c.a11] 115 (0,0)))=wI:=⟨_,rfl⟩
      have hB:wI.heap[wr.heap.size + 1]?=some (.cells #[.int .i64 x,.int .u32 c.a00,.int .u32 c.a10,.int .i64 x,.int .u32 c.a01,.int .u32 c.a11] 115 (0,0)):=by
        have h:=heap_alloc_new (wr.alloc (.cells #[.int .u32 c.r,.int .i64 x,.int .u32 c.lo,.int .u32 c.hi,.int .u32 c.a00,.int .u32 c.a01,.int .u32 c.a10,.int .u32 c.a11] 276 (0,0))) (.cells #[.int .i64 x,.int .u32 c.a00,.int .u32 c.a10,.int .i64 x,.int .u32 c.a01,.int .u32 c.a11] 115 (0,0));rw [World.size_alloc] at h
        rw [← hwI]; exact h
      have hFI:FreshR w x w.heap.size K ((C.take i).flatMap CrV.qs) wI:=HF.out.keep (by rw [← hwI]; exact ((Upd.refl [] wr).alloc _).alloc _)
      have hBn:w.heap.size≠wr.heap.size + 1:=by have:=HF.out.up.size; omega
      rw [hwI];generalize wr.heap.size + 1=B at *;generalize wr.heap.size=B9 at *;have HI:=Lib.hid (And.intro hFI hB);clear hwI hB hFI z0 z4 z5 z6 z7 c0 c1 c2 c3 c4 c5 c6 c7 HF
      go_loopg [35] 2 (fun gg s35 wy=>∃ j:Nat,2 - j=gg∧j≤2∧s35=.int .i64 j∧FreshR w x w.heap.size K ((C.take i).flatMap CrV.qs ++ c.qs.take j) wy∧wy.heap[B]?=some (.cells #[.int .i64 x,.int .u32 c.a00,.int .u32 c.a10,.int .i64 x,.int .u32 c.a01,.int .u32 c.a11] 115 (0,0)))
      case atStart=>exact ⟨0,by omega,by omega,rfl,by simpa using HI.out.1,HI.out.2⟩
      case round =>
        obtain ⟨j,rfl,hj,rfl,hF,hB⟩:=hrel
        by_cases hjt:j < 2
        · have hji:(j:Int) < 2:=by omega
          have hq0:∃ a d:Nat,c.qs[j]?=some (a,d)∧(a≤4294967295∧d≤4294967295)∧wr.cell? ⟨B,j * 3,none⟩=some (.int .i64 x)∧wr.cell? ⟨B,j * 3 + 1,none⟩=some (.int .u32 a)∧wr.cell? ⟨B,j * 3 + 2,none⟩=some (.int .u32 d):=by
            obtain ⟨_,_,_,e1,e2,e3,e4⟩:=HCI.out.2
            match j,hjt with
            | 0,_=>exact ⟨c.a00,c.a10,rfl,⟨e1,e3⟩,cell_at hB rfl,cell_at hB rfl,cell_at hB rfl⟩
            | 1,_=>exact ⟨c.a01,c.a11,rfl,⟨e2,e4⟩,cell_at hB rfl,cell_at hB rfl,cell_at hB rfl⟩
          obtain ⟨a,d,hqj,⟨ha,hd⟩,y0,y1,y2⟩:=hq0
          have htk:c.qs.take (j + 1)=c.qs.take j ++ [(a,d)]:=by rw [List.take_add_one,hqj]; rfl
          have hu1:Upd [] wr (wr.alloc (.cells #[.int .i64 x,.int .u32 a,.int .u32 d] 115 (0,0))):=(Upd.refl [] wr).alloc _;have hbx:=heap_alloc_new wr (.cells #[.int .i64 x,.int .u32 a,.int .u32 d] 115 (0,0))
          have HX:Hid (∀ z:World,Upd [] (wr.alloc (.cells #[.int .i64 x,.int .u32 a,.int .u32 d] 115 (0,0))) z→z.cell? ⟨b,1,none⟩=some (.pointer (some ⟨q.t,0,none⟩))∧z.cell? ⟨wr.heap.size,0,none⟩=some (.int .i64 x)∧z.cell? ⟨wr.heap.size,1,none⟩=some (.int .u32 a)∧z.cell? ⟨wr.heap.size,2,none⟩=some (.int .u32 d)):=fun z u =>
            ⟨hkb.out z (hF.up.trans (hu1.trans u)),u.cellK (cell_at (j:=0) hbx rfl),u.cellK (cell_at (j:=1) hbx rfl),u.cellK (cell_at (j:=2) hbx rfl)⟩
          have HTA:Hid (∀ z:World,Upd [] (wr.alloc (.cells #[.int .i64 x,.int .u32 a,.int .u32 d] 115 (0,0))) z→TabAt z q.t T q.FT):=fun z u=>(HK.out z (hF.up.trans (hu1.trans u))).mem.tab
          have HFB:=Lib.hid (And.intro hF (And.intro hB hu1));have HTK:=Lib.hid htk;obtain ⟨x0,x1,x2,x3⟩:=HX.out _ (Upd.refl _ _);clear hF hB hqj htk hu1 hbx;go_wp2_with fail
          go_region_held3 (fun z=>z.cell? ⟨b,1,none⟩=some (.pointer (some ⟨q.t,0,none⟩))∧z.cell? ⟨wr.heap.size,0,none⟩=some (.int .i64 x)∧z.cell? ⟨wr.heap.size,1,none⟩=some (.int .u32 a)∧z.cell? ⟨wr.heap.size,2,none⟩=some (.int .u32 d)) (exact HX.out _ (by first | exact HU2.out | exact (Upd.refl [] _).drew | exact Upd.refl _ _)) (first | (go_at_call 237; refine (find_spec q.t q.FT x a d T DX _ (HTA.out _ (by first | exact (Upd.refl [] _).drew | exact Upd.refl _ _)) HD.out ha hd).mono ?_; rintro e w2 ⟨c9,rfl,hc,hu⟩; have HL:=Lib.hid (HW.out.2.lookX HW.out.1 hx HD.out ha hd hc); have HU2:Hid (Upd [] (wr.alloc (.cells #[.int .i64 x,.int .u32 a,.int .u32 d] 115 (0,0))) w2):=(by first | exact hu | exact (Upd.refl [] _).drew.trans hu); clear hc hu))
          have HFW:=Lib.hid (And.intro (HFB.out.1.keep (HFB.out.2.2.trans HU2.out)) (((HFB.out.2.2.trans HU2.out).block B (heap_lt HFB.out.2.1) (by simp)).trans HFB.out.2.1));clear x0 x1 x2 x3;obtain ⟨x0,x1,x2,x3⟩:=HX.out w2 HU2.out
          cases hbb:Maps.has DX (nk x a d) with
          | true =>
            rw [hbb] at HL
            have HS:Hid (FreshR w x w.heap.size K ((C.take i).flatMap CrV.qs ++ c.qs.take j ++ [(a,d)]) w2):=HFW.out.1.skip (.inr (by
              rcases HL.out with ⟨_,r,_,_,r2,p,hp⟩ | ⟨hf,_⟩
              · exact ⟨r,p,r2,hp⟩
              · cases hf))
            clear HL hbb;go_wp2_with fail
            go_roundg (2 - (j + 1))
            case measure=>omega
            case rel=>exact ⟨j + 1,rfl,by omega,by simp,by rw [HTK.out,← List.append_assoc]; exact HS.out,HFW.out.2⟩
          | false =>
            rw [hbb] at HL
            have HNO:Hid (¬ K.has3 x a d):=fun ⟨r,p,r2,hp,hpt,e⟩=>by
              rcases HL.out with ⟨hf,_⟩ | ⟨_,_,hno⟩
              · cases hf
              · exact hno r p (by simp) r2 hp hpt e
            clear HL hbb
            by_cases had:a=d
            · have HS:Hid (FreshR w x w.heap.size K ((C.take i).flatMap CrV.qs ++ c.qs.take j ++ [(a,d)]) w2):=HFW.out.1.skip (.inl had)
              subst had;go_wp2_with fail
              go_roundg (2 - (j + 1))
              case measure=>omega
              case rel=>exact ⟨j + 1,rfl,by omega,by simp,by rw [HTK.out,← List.append_assoc]; exact HS.out,HFW.out.2⟩
            · have hd1:((a:Int) == (d:Int))=false:=by simp; omega
              have hd2:¬ ((a:Int)=(d:Int)):=by omega
              have hd3:decide ((a:Int)=(d:Int))=false:=decide_eq_false hd2;obtain ⟨N,D,h1,h2,h3⟩:=HFW.out.1.ex;have hkey:=nk_of (v:=(x:Int)) (lo:=a) (hi:=d) (wfI (by omega) (by omega)) (wfR ha) (wfR hd);have hb9:=h3.lt
              have hsz:Maps.size D < maxLen:=by
                rw [h2.sz]
                have:N.length≤((C.take i).flatMap CrV.qs ++ c.qs.take j).length:=List.Nodup.length_le_of_subset h1.nd fun p hp=>((h1.iff p).1 hp).1
                have e1:∀ l:List CrV,(l.flatMap CrV.qs).length=l.length * 2:=fun l=>by
                  induction l with
                  | nil=>rfl
                  | cons e l ih=>rw [List.flatMap_cons,List.length_append,ih,List.length_cons]; simp [CrV.qs]; omega
                rw [List.length_append,e1,List.length_take,List.length_take] at this;unfold maxLen;omega
              obtain ⟨c0,st,W1,hrun,hrun1,hrunE,hu1,hbump⟩:=own_bump (own_keep (w':=w2.drew) h3 rfl) hsz hkey;obtain ⟨w9,hrun2,hown,hu9⟩:=hbump _ (wrap64_wf (c0 + 1))
              have hmbw:w.heap.size < wr.heap.size:=by obtain ⟨_,_,_,_,h⟩:=HFB.out.1.ex; exact h.lt
              have hm1:∀ {k:Nat} {v:Value},w2.cell? ⟨wr.heap.size,k,none⟩=some v→W1.cell? ⟨wr.heap.size,k,none⟩=some v:=fun {k v} hc=>((Upd.of_drew hu1).cell (World.block_lt_of_cell? _ _ hc) (by simp; omega)).trans hc
              have v1:=hm1 x1;have v2:=hm1 x2;have v3:=hm1 x3
              have HS:Hid (FreshR w x w.heap.size K ((C.take i).flatMap CrV.qs ++ c.qs.take j ++ [(a,d)]) w9∧w9.heap[B]?=some (.cells #[.int .i64 x,.int .u32 c.a00,.int .u32 c.a10,.int .i64 x,.int .u32 c.a01,.int .u32 c.a11] 115 (0,0))) :=
                ⟨FreshR.put HFW.out.1.up h1 h2 (by omega) (h3.tidy nodeKeyed) ha hd had HNO.out (Nat.le_refl _) (own_tight hown) (Upd.of_drew hu9),((Upd.of_drew hu9).block B (heap_lt HFW.out.2) (by simp; omega)).trans HFW.out.2⟩
              clear h1 h2 h3 hown hu1 hbump hu9 hsz hkey had hb9 hm1;go_wp2_with fail
              go_region
              go_wp2_with fail
              go_roundg (2 - (j + 1))
              case measure=>omega
              case rel=>exact ⟨j + 1,rfl,by omega,by simp,by rw [HTK.out,← List.append_assoc]; exact HS.out.1,HS.out.2⟩
        · obtain rfl:j=2:=by omega
          have hji:¬ ((2:Nat):Int) < 2:=by omega
          have HE:Hid (FreshR w x w.heap.size K ((C.take (i + 1)).flatMap CrV.qs) wr):=by
            show FreshR w x w.heap.size K ((C.take (i + 1)).flatMap CrV.qs) wr
            rw [List.take_add_one,HCI.out.1,List.flatMap_append]
            simpa [CrV.qs] using hF
          clear hF hB;go_wp2_with fail
          go_roundg (C.length - (i + 1))
          case measure=>omega
          case rel=>exact ⟨i + 1,rfl,by omega,by simp,HE.out⟩
    · obtain rfl:i=C.length:=by omega
      have hil:¬ ((C.length:Int) < (C.length:Int)):=by omega
      rw [List.take_length] at hF;obtain ⟨N,D,h1,h2,h3⟩:=hF.ex;have HE:Hid (FreshQ x K C w (.returned (.int .i64 (Maps.size D:Nat))) wr):=⟨N,by rw [h2.sz],h1,hF.up⟩
      have hln:=fun ty=>h3.len Tryz.underlying312 ty
      clear hF h1 h2 h3;go_wp2_with fail;go_ret;exact HE.out
end Go.Proofs.YtpfafhmkbcahhaaGreat
