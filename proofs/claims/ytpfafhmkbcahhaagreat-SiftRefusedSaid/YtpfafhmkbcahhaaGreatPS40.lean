import Derived.Test.YtpfafhmkbcahhaaGreatPS27
import Derived.Test.YtpfafhmkbcahhaaGreatPS32
import Derived.WalkKit
import Derived.ProofKit
import Derived.OpenShut
import Derived.ShutString
import Derived.ChangeOld
import Derived.ChangeSlices
import Derived.Below
namespace Go.Proofs.YtpfafhmkbcahhaaGreat
theorem sum_two (n c:Nat):c + (2 ^ n - 1) * (2 * c)=(2 ^ (n + 1) - 1) * c:=by
  have h:0 < 2 ^ n:=Nat.two_pow_pos n;obtain ⟨m,hm⟩ : ∃ m,2 ^ n=m + 1:=⟨2 ^ n - 1,by omega⟩;rw [Nat.pow_succ,hm,show (m + 1) * 2 - 1=2 * m + 1 by omega,Nat.add_sub_cancel,Nat.add_mul,← Nat.mul_assoc,Nat.mul_comm m 2];omega
theorem levF_lenT:∀ (o:List Nat) (c:List TV),(levT c o).flatten.length≤(2 ^ o.length - 1) * c.length
  | [],c=>by simp [levT]
  | v :: o,c=>by
    have h1:=levF_lenT o (givenT c v);have h2:=givenT_len c v
    have h3:(nodesT c v).length≤c.length:=by unfold nodesT; exact List.length_filter_le _ _
    have h4:(2 ^ o.length - 1) * (givenT c v).length≤(2 ^ o.length - 1) * (2 * c.length):=Nat.mul_le_mul_left _ h2;have h5:=sum_two o.length c.length;rw [List.length_cons]
    simp only [levT,List.flatten_cons,List.length_append]
    omega
theorem flatT_len (L:List TV) (o:List Nat):(flatT L o).length≤(2 ^ o.length - 1) * L.length :=
  Nat.le_trans (levF_lenT o _) (Nat.mul_le_mul_left _ (unlikeT_len L))
def tabF (n:Nat) (F:(Nat→Bool)→Bool):TV:=mkT n fun x=>F fun v=>x.testBit v
theorem tabF_ok {n:Nat} (hn:n≤16) (F:(Nat→Bool)→Bool):(tabF n F).Ok∧(tabF n F).n=n:=⟨mkT_ok _ hn,rfl⟩
theorem tabF_fn {n:Nat} {F:(Nat→Bool)→Bool} (hF:∀ x y:Nat→Bool,(∀ v,v < n→x v=y v)→F x=F y) (y:Nat→Bool):(tabF n F).fn y=F y:=by
  unfold tabF;rw [mkT_fn]
  exact hF _ _ fun v hv=>by rw [idx_bit]; simp [hv]
structure Ses (K:KV) (Q:List TV) (L:List (Nat × ((Nat→Bool)→Bool))) (c:Nat):Prop where
  n6:K.vars≤6
  pl:K.A.places=4096
  rt:RootsT K Q
  ql:Q.length≤c
  hh:∀ x,K.hold x≤c
  nm:∀ r f,(r,f)∈L→K.A.tk r=true∧∀ y,K.den r y=f y
theorem Ses.op {K K':KV} {Q:List TV} {L:List (Nat × ((Nat→Bool)→Bool))} {c r:Nat} {code:Int} {t t':(Nat→Bool)→Bool} (h:Ses K Q L c) (hk:K.Ok) (_hk:K'.Ok) (hc:c < 60) (O:OpR K t r code K')
    (hF:∀ x y:Nat→Bool,(∀ v,v < K.vars→x v=y v)→t x=t y) (ht:∀ y,t y=t' y):code=0∧∃ Q',Ses K' Q' ((r,t') :: L) (c + 1):=by
  have hn6:=h.n6;have hok:=tabF_ok (n:=K.vars) (by omega) t;have hfn:=tabF_fn hF
  rcases O with ⟨rfl,O⟩ | ⟨_,_,_,s,_,_,hs⟩ | ⟨_,_,_,hno⟩
  · refine ⟨rfl,Q ++ [tabF K.vars t],by rw [O.ext.vr]; exact hn6,by rw [O.ext.pl]; exact h.pl,⟨fun x hx=>?_,fun u hm=>?_,fun u hm=>?_⟩,by simpa using h.ql,fun x=>?_,fun s f hm=>?_⟩
    · by_cases ex:x=r
      · subst ex; exact ⟨tabF K.vars t,by simp,fun y=>by rw [O.den,hfn]⟩
      · rw [O.hd,if_neg (fun k=>ex k.1)] at hx
        obtain ⟨u,hm,hd'⟩:=h.rt.rt x (by omega);exact ⟨u,by simp [hm],fun y=>by rw [O.ext.den hk.wf y (hk.wf.ht x (by omega)).2]; exact hd' y⟩
    · rcases List.mem_append.1 hm with hm | hm
      · obtain ⟨x,a1,a2⟩:=h.rt.lr u hm
        exact ⟨x,O.ext.tk a1,fun y=>by rw [O.ext.den hk.wf y a1]; exact a2 y⟩
      · simp at hm; subst hm; exact ⟨r,O.tk,fun y=>by rw [O.den,hfn]⟩
    · rw [O.ext.vr]
      rcases List.mem_append.1 hm with hm | hm
      · exact h.rt.ok u hm
      · simp at hm; subst hm; exact hok
    · have:=h.hh x
      rw [O.hd]; split <;> omega
    · rcases List.mem_cons.1 hm with e | hm
      · cases e; exact ⟨O.tk,fun y=>by rw [O.den,ht]⟩
      · obtain ⟨a1,a2⟩:=h.nm s f hm
        exact ⟨O.ext.tk a1,fun y=>by rw [O.ext.den hk.wf y a1]; exact a2 y⟩
  · have:=h.hh s
    omega
  · exfalso
    have hw:NoFitW K (K.SubN (tabF K.vars t).fn):=by
      have e:(tabF K.vars t).fn=t:=funext hfn
      rw [e]; exact hno.weak
    have h1:=h.rt.nofit hk (by omega) hok.1 hok.2 hw;have h2:=flatT_len (Q ++ [tabF K.vars t]) K.order;have h3:=hk.ord.pm.ol;have h4:=h.ql;have h5:2 ^ K.vars≤2 ^ 6:=Nat.pow_le_pow_right (by omega) hn6;rw [h.pl] at h1;rw [h3,List.length_append,List.length_singleton] at h2;have h6:(2 ^ K.vars - 1) * (Q.length + 1)≤63 * 61:=Nat.mul_le_mul (by omega) (by omega);omega
theorem Ses.eq {K:KV} {Q:List TV} {L:List (Nat × ((Nat→Bool)→Bool))} {c r s:Nat} {f g:(Nat→Bool)→Bool} (h:Ses K Q L c) (hk:K.Ok) (hu:K.Uni) (h1:(r,f)∈L) (h2:(s,g)∈L) (e:∀ y,f y=g y):r=s:=by
  obtain ⟨a1,a2⟩:=h.nm r f h1;obtain ⟨b1,b2⟩:=h.nm s g h2
  exact KV.canon hk.wf hk.ord hu _ _ _ a1 b1 (Nat.le_refl _) fun y=>by rw [a2,b2,e]
theorem Ses.low {K:KV} {Q:List TV} {L:List (Nat × ((Nat→Bool)→Bool))} {c r:Nat} {f:(Nat→Bool)→Bool} (h:Ses K Q L c) (hk:K.Ok) (h1:(r,f)∈L):K.A.tk r=true∧r≤4294967295∧∀ y,K.den r y=f y:=by
  obtain ⟨a1,a2⟩:=h.nm r f h1;exact ⟨a1,by have:=hk.ref_lt a1; omega,a2⟩
def SesW (w:World) (b n0:Nat) (L:List (Nat × ((Nat→Bool)→Bool))) (c:Nat):Prop :=
  ∃ (K:KV) (F:List Nat) (Q:List TV),KerAt w b K F∧(∀ k,k∈F→n0≤k)∧n0≤w.heap.size∧Ses K Q L c
theorem SesW.keep0 {w w':World} {b n0 c:Nat} {L:List (Nat × ((Nat→Bool)→Bool))} (h:SesW w b n0 L c) (u:Upd [] w w'):SesW w' b n0 L c:=by
  obtain ⟨K,F,Q,h1,h2,h3,h4⟩:=h;exact ⟨K,F,Q,h1.upd u (by simp),h2,Nat.le_trans h3 u.size,h4⟩
theorem SesW.eq {w:World} {b n0 c r s:Nat} {f g:(Nat→Bool)→Bool} {L:List (Nat × ((Nat→Bool)→Bool))} (h:SesW w b n0 L c) (h1:(r,f)∈L) (h2:(s,g)∈L) (e:∀ y,f y=g y):r=s:=by
  obtain ⟨K,F,Q,hk,_,_,h4⟩:=h;exact h4.eq hk.ok hk.uni h1 h2 e
structure SesQ (b n0:Nat) (L:List (Nat × ((Nat→Bool)→Bool))) (c:Nat) (t:(Nat→Bool)→Bool) (w:World) (e:Ending) (w':World):Prop where
  ex:∃ r:Nat,e=.returned (.tuple #[.int .u32 r,.int .i64 0])∧r≤4294967295∧SesW w' b n0 ((r,t) :: L) (c + 1)∧Fro n0 w w'
theorem SesQ.of {b n0 c:Nat} {K:KV} {q:KPtr} {L:List (Nat × ((Nat→Bool)→Bool))} {Q:List TV} {t t':(Nat→Bool)→Bool} {w w':World} {e:Ending} (hk:K.Ok) (h2:∀ k,k∈q.all b→n0≤k) (h3:n0≤w.heap.size) (h4:Ses K Q L c) (hc:c < 60)
    (hF:∀ x y:Nat→Bool,(∀ v,v < K.vars→x v=y v)→t x=t y) (ht:∀ y,t y=t' y) (P:OpPost b K q t w e w'):SesQ b n0 L c t' w e w':=by
  obtain ⟨r,code,K',T',q',rfl,O,hk',hu,hs⟩:=P.ex;obtain ⟨rfl,Q',hS⟩:=h4.op hk hk'.ok hc O hF ht;have hkr:=hk'.ok.ref_lt (hS.nm r t' (by simp)).1;refine ⟨r,rfl,by omega,⟨K',q'.all b,Q',⟨T',q',hk',rfl⟩,fun k hm=>?_,Nat.le_trans h3 hu.size,hS⟩,Fro.of hu h2⟩
  rcases hs k hm with h | h
  · exact h2 k h
  · omega
end Go.Proofs.YtpfafhmkbcahhaaGreat
namespace Go.Proofs.YtpfafhmkbcahhaaGreat
open Go.ChangeShapes Go.WideShapes Go.ChangeAt Go.RowKit
theorem own_knob:ownKnob Tryz.prog.godebug=none:=by kernel_rfl
theorem laid_out:laidOutB Tryz.prog=true:=by kernel_rfl
theorem okWide_row {P:Program} {w:World} {r:Reach} {base:Nat} {t:TypeId} {v:Value} {fs:Array Field} (ht:P.underlying t=some (.struct fs)) (h:Value.okWide P w r base t v):∃ cs,v=.agg cs∧cs.size=P.cellsOf t∧Row.okWide P w r base t cs:=by
  unfold Value.okWide at h;rw [ht] at h;exact h
theorem stateSize:Tryz.prog.cellsOf 25=4:=by kernel_rfl
theorem intSize:Tryz.prog.cellsOf 3=1:=by kernel_rfl
theorem u64Size:Tryz.prog.cellsOf 96=1:=by kernel_rfl
theorem intsSize:Tryz.prog.cellsOf 22=1:=by kernel_rfl
theorem u64sSize:Tryz.prog.cellsOf 23=1:=by kernel_rfl
theorem wf_u64 {x:Int} (h:(Lit.int .u64 x).wf=true):U64 x:=by
  simp only [Lit.wf,Bool.and_eq_true,decide_eq_true_eq] at h
  have e1:IntKind.u64.min=0:=rfl;have e2:IntKind.u64.max=18446744073709551615:=rfl;unfold U64;omega
theorem RowOf.of_ints {H:Type} {W:World} {k:IntKind} {cs:List Value} {x:DataW H × List MemPlace}
    (h:(cs=[.slice none 0 0]∧x=(.nil,[])) ∨
    ∃ (a:Addr) (len cap:Nat) (zs:List Int),cs=[.slice (some a) len cap]∧0≤a.block∧len≤cap∧cap≤maxLen∧zs.length=(if (fun _:Nat=>true) a.block then cap else len) ∧
      x=(.slice (lits k (zs.take len)) (lits k (zs.drop len)),MemPlace.row a zs.length) ∧
      (∀ i,i < zs.length→W.cell? (a.add i)=some (.int k (zs.getD i 0)))∧(∀ n∈zs,(Lit.int k n).wf=true)) :
    ∃ (a:Option Addr) (n c:Nat) (Zs:List Int),cs=[.slice a n c]∧RowOf W k a n Zs∧∀ z,z∈Zs→(Lit.int k z).wf=true:=by
  rcases h with ⟨rfl,_⟩ | ⟨a,len,cap,zs,rfl,_,hl,hm,hz,_,hc,hw⟩
  · exact ⟨none,0,0,[],rfl,⟨rfl,Nat.zero_le _,fun i hi=>by omega⟩,fun z hz=>by cases hz⟩
  · have hz':zs.length=cap:=by simpa using hz
    refine ⟨some a,len,cap,zs.take len,rfl,⟨by rw [List.length_take]; omega,by omega,fun i hi=>⟨a,rfl,?_⟩⟩,fun z hz=>hw z (List.mem_of_mem_take hz)⟩;rw [hc i (by omega),List.getD_eq_getElem?_getD,List.getD_eq_getElem?_getD,List.getElem?_take_of_lt hi]
set_option maxRecDepth 100000 in
theorem state_shape {H:Type} {enc:TypeId × Value→H} {W:World} {r:Reach} {base:Nat} {v:Value} {d:DataW H} {p:List MemPlace} (h:Value.okWide Tryz.prog W r base 25 v) (hd:DataW.Trod enc Tryz.prog W 0 (fun _=>true) true 25 v d p) :
    ∃ (n room:Int) (la wa:Option Addr) (ln lc wn wk:Nat) (Ls Ws:List Int),v=.agg #[.int .i64 n,.int .i64 room,.slice la ln lc,.slice wa wn wk]∧RowOf W .i64 la ln Ls∧RowOf W .u64 wa wn Ws∧∀ x,x∈Ws→U64 x:=by
  obtain ⟨cs,rfl,hsz,_⟩:=okWide_row Tryz.underlying25 h;obtain ⟨fuel,hd⟩:=hd;have hsz:=hsz.trans stateSize;obtain ⟨l⟩:=cs
  match l,hsz with
  | [c0,c1,c2,c3],_ =>
    obtain ⟨ys,m,_,_,_,hl,hf⟩:=Go.DataW.trod_struct Tryz.underlying25 hd
    match ys,hl with
    | [y0,y1,y2,y3],_ =>
      have h0:=hf 0 _ rfl;have h1:=hf 1 _ rfl;have h2:=hf 2 _ rfl;have h3:=hf 3 _ rfl
      simp [Value.cells,intSize,intsSize,u64sSize] at h0 h1 h2 h3
      obtain ⟨n,e0,_,_⟩:=Go.DataW.trod_int Tryz.underlying3 h0;obtain ⟨room,e1,_,_⟩:=Go.DataW.trod_int Tryz.underlying3 h1;obtain ⟨la,ln,lc,Ls,e2,hL,_⟩:=RowOf.of_ints (open_ints Tryz.underlying22 Tryz.underlying3 intSize h2);obtain ⟨wa,wn,wk,Ws,e3,hW,hU⟩:=RowOf.of_ints (open_ints Tryz.underlying23 Tryz.underlying96 u64Size h3)
      simp at e0 e1 e2 e3
      subst e0 e1 e2 e3;exact ⟨n,room,la,wa,ln,lc,wn,wk,Ls,Ws,rfl,hL,hW,fun x hx=>wf_u64 (hU x hx)⟩
end Go.Proofs.YtpfafhmkbcahhaaGreat
