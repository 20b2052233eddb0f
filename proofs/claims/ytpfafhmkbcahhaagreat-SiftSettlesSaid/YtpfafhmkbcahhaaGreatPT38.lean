import Derived.Test.YtpfafhmkbcahhaaGreatPT37
set_option maxRecDepth 100000
set_option maxHeartbeats 1600000
namespace Go.Proofs.YtpfafhmkbcahhaaGreat
open Go.RowKit Go.Maps Go.ChangeMaps Go.WideShapes
structure DocP (m:Nat) (M:MV) (p0:MPtr) (Z:List Nat) (v g:Int) (w:World) (e:Ending) (w':World):Prop where
 en:e=.returned (.tuple #[.agg (M.oneR v g),.int .i64 (M.oneE v g)])
 md:ModE m p0 Z (M.one v g) w w'
theorem doc_spec (m:Nat) (v g:Int) (M:MV) (p0:MPtr) (Z:List Nat) (w:World) (h:ModIn w m M p0 Z) (hZ:∀ k,k∈Z->k<w.heap.size) (hG:M.Good) (hall:∀ u,u<M.n->u∈M.order) (ht:M.trail.length<=800000) :
  Calls Tryz.prog 18 #[.pointer (some ⟨m,0,none⟩),.int .i64 v,.int .i64 g] w fun e w'=>DocP m M p0 Z v g w e w':=by
 by_cases hE0:M.oneE v g=0
 ·have hgv:(¬ (g<100\/1000<g))/\(0<=v/\v<M.n):=by
   unfold MV.oneE at hE0
   split at hE0
   ·omega
   ·split at hE0
    ·rename_i h1 h2;exact ⟨h1,h2⟩
    ·omega
  obtain ⟨u,rfl⟩ : ∃ u:Nat,v=(u:Int):=⟨v.toNat,by omega⟩;obtain ⟨k,rfl⟩ : ∃ k:Nat,g=(k:Int):=⟨g.toNat,by omega⟩;refine (doc_core m u k M p0 Z w h hZ hG (hall u (by omega)) ht (by omega) (by omega)).mono ?_;rintro e w' hQ;refine ⟨hQ.en.trans ?_,?_⟩
  ·unfold MV.oneR;rw [hE0,if_pos rfl,Int.toNat_natCast,Int.toNat_natCast]
  ·unfold MV.one;rw [hE0,if_pos rfl,Int.toNat_natCast,Int.toNat_natCast];exact hQ.md
 ·have HCK:=Lib.hid (fun z (u:Upd [] w z)=>rcheck_spec m v g M p0 Z z (h.keep0 u))
  have HMD:Hid (∀ z,Upd [] w z->ModE m p0 Z (M.one v g) w z):=fun z u=>by
   unfold MV.one;rw [if_neg hE0];exact ModE.same h u
  have HRR:Hid (M.oneR v g=#[.int .i64 0,.int .i64 0,.int .i64 0,.bool false]):=by show _=_;unfold MV.oneR;rw [if_neg hE0]
  have HRI:Hid ((Tryz.prog.info? 36).map (·.size)=some 4):=by show _=_;kernel_rfl
  have hb0:=heap_alloc_new w (.cells #[.int .i64 0,.int .i64 0,.int .i64 0,.bool false] 36 (0,0));have HB:=Lib.hid hb0;obtain ⟨E,hE⟩ : ∃ E,M.oneE v g=E:=⟨_,rfl⟩;have HEE:=Lib.hid hE;rw [hE] at HCK hE0
  have he2:(E == 0)=false:=by simpa using hE0
  have hb1:(w.alloc (.cells #[.int .i64 0,.int .i64 0,.int .i64 0,.bool false] 36 (0,0))).heap[w.heap.size]?=some (.cells #[.int .i64 0,.int .i64 0,.int .i64 0,.bool false] 36 (0,0)):=hb0;clear h hZ hG hall hE hb0 hb1
  go_enter Tryz.func18,Tryz.ntmps18
  go_wp2_with fail;refine (HCK.out _ ((Upd.refl _ _).alloc _)).mono ?_;rintro e w1 ⟨rfl,rfl⟩;go_wp2_with fail;refine bodyPost_ret (ret_rep rfl _ _ w.heap.size #[.int .i64 0,.int .i64 0,.int .i64 0,.bool false] (.int .i64 E) _ rfl rfl HB.out Tryz.underlying36 rfl HRI.out) rfl ⟨by rw [HRR.out,HEE.out],HMD.out _ ((Upd.refl _ _).alloc _)⟩
theorem KM.good {K:KV} {M:MV} (h:KM K M) (hk:K.Ok):M.Good:=by
 have hn:=h.agr.same.n;have ho:=h.agr.same.od;have hol:=hk.ord.pm.ol;refine ⟨h.len hk,h.fit,?_⟩;rw [ho]
 refine List.pairwise_iff_getElem.2 fun i j hi hj hij e=>?_
 have h1:=(hk.ord.pm.oo i (by omega)).2;have h2:=(hk.ord.pm.oo j (by omega)).2
 have e1:K.order.getD i 0=K.order[i]:=by rw [List.getD_eq_getElem?_getD,List.getElem?_eq_getElem hi];rfl
 have e2:K.order.getD j 0=K.order[j]:=by rw [List.getD_eq_getElem?_getD,List.getElem?_eq_getElem hj];rfl
 rw [e1,e,<- e2,h2] at h1;omega
theorem KM.all {K:KV} {M:MV} (h:KM K M) (hk:K.Ok):∀ u,u<M.n->u∈M.order:=fun _ hu=>List.mem_of_getElem? (h.lvl hk hu).2.2
end Go.Proofs.YtpfafhmkbcahhaaGreat
