import Derived.Test.YtpfafhmkbcahhaaGreatPS28
namespace Go.Proofs.YtpfafhmkbcahhaaGreat
open Go.RowKit Go.Maps Go.ChangeMaps Go.WideShapes
def MV.oneE (M:MV) (v g:Int):Int:=if g < 100∨1000 < g then 1 else if 0≤v∧v < M.n then 0 else 2
def MV.one (M:MV) (v g:Int):MV:=if M.oneE v g=0 then (M.oneD (M.lvl v.toNat) g.toNat).M else M
def MV.oneR (M:MV) (v g:Int):Array Value:=if M.oneE v g=0 then #[.int .i64 M.live,.int .i64 (M.oneD (M.lvl v.toNat) g.toNat).M.live,.int .i64 (M.oneD (M.lvl v.toNat) g.toNat).sw,.bool false] else #[.int .i64 0,.int .i64 0,.int .i64 0,.bool false]
structure OneP (b:Nat) (K:KV) (F:List Nat) (M:MV) (v g:Int) (w:World) (e:Ending) (w':World):Prop where
  en:e=.returned (.tuple #[.agg (M.oneR v g),.int .i64 (M.oneE v g)])
  mv:KMove b K F (M.one v g) w w'
theorem KMove.same {b:Nat} {K:KV} {F:List Nat} {M:MV} {w w':World} (h:KerAt w b K F) (hm:KM K M) (u:Upd [] w w'):KMove b K F M w w' :=
  ⟨K,F,h.upd u (by simp),hm,Stay.refl K,u.mono (by simp),Sub.refl _ _⟩
theorem OneP.no {b:Nat} {K:KV} {F:List Nat} {M:MV} {v g c:Int} {w w':World} (h:KerAt w b K F) (hm:KM K M) (u:Upd [] w w') (hc:M.oneE v g=c) (h0:c≠0):OneP b K F M v g w (.returned (.tuple #[.agg #[.int .i64 0,.int .i64 0,.int .i64 0,.bool false],.int .i64 c])) w':=by
  refine ⟨?_,?_⟩
  · unfold MV.oneR; rw [hc,if_neg h0]
  · unfold MV.one; rw [hc,if_neg h0]; exact KMove.same h hm u
set_option maxRecDepth 100000 in
set_option maxHeartbeats 1600000 in
theorem one_spec (b:Nat) (v g:Int) (K:KV) (F:List Nat) (M:MV) (w:World) (h:KerAt w b K F) (hm:KM K M) (ht:M.trail.length≤900000) :
    Calls Tryz.prog 17 #[.pointer (some ⟨b,0,none⟩),.int .i64 v,.int .i64 g] w fun e w'=>OneP b K F M v g w e w':=by
  have hn:=hm.agr.same.n
  by_cases hg:g < 100∨1000 < g
  · have HE:Hid (M.oneE v g=1):=by show _=_; unfold MV.oneE; rw [if_pos hg]
    have HG:Hid (growE g=1):=by show _=_; unfold growE; rw [if_pos hg]
    have HM:=Lib.hid (And.intro h hm)
    have HRI:Hid ((Tryz.prog.info? 36).map (·.size)=some 4):=by show _=_; kernel_rfl
    have hb0:=heap_alloc_new w (.cells #[.int .i64 0,.int .i64 0,.int .i64 0,.bool false] 36 (0,0));have HB:=Lib.hid hb0;clear h hm hg hn hb0
    go_enter Tryz.func17,Tryz.ntmps17
    go_wp2_with fail;refine (scheck_spec b g _).mono ?_;rintro e w1 ⟨rfl,rfl⟩;rw [HG.out];go_wp2_with fail;refine bodyPost_ret (ret_rep rfl _ _ w.heap.size #[.int .i64 0,.int .i64 0,.int .i64 0,.bool false] (.int .i64 1) _ rfl rfl HB.out Tryz.underlying36 rfl HRI.out) rfl (OneP.no HM.out.1 HM.out.2 ((Upd.refl [] w).alloc _) HE.out (by decide))
  · by_cases hv:0≤v∧v < M.n
    · obtain ⟨u,rfl⟩ : ∃ u:Nat,v=(u:Int):=⟨v.toNat,by omega⟩
      obtain ⟨k,rfl⟩ : ∃ k:Nat,g=(k:Int):=⟨g.toNat,by omega⟩
      have hE:M.oneE u k=0:=by unfold MV.oneE; rw [if_neg hg,if_pos hv]
      refine (one_core b u k K F M w h hm ht (by omega) (by omega) (by omega)).mono ?_;rintro e w' hQ;refine ⟨hQ.en.trans ?_,?_⟩
      · unfold MV.oneR; rw [hE,if_pos rfl,Int.toNat_natCast,Int.toNat_natCast]
      · unfold MV.one; rw [hE,if_pos rfl,Int.toNat_natCast,Int.toNat_natCast]; exact hQ.mv
    · have HE:Hid (M.oneE v g=2):=by show _=_; unfold MV.oneE; rw [if_neg hg,if_neg hv]
      have HG:Hid (growE g=0):=by show _=_; unfold growE; rw [if_neg hg]
      have HM:=Lib.hid (And.intro h hm)
      have HRI:Hid ((Tryz.prog.info? 36).map (·.size)=some 4):=by show _=_; kernel_rfl
      have hb0:=heap_alloc_new w (.cells #[.int .i64 0,.int .i64 0,.int .i64 0,.bool false] 36 (0,0));have HB:=Lib.hid hb0;have HL:=Lib.hid (level_no b v K F _ (h.upd ((Upd.refl [] w).alloc (.cells #[.int .i64 0,.int .i64 0,.int .i64 0,.bool false] 36 (0,0))) (by simp)) (by unfold KV.isVar; exact decide_eq_false (by rw [← hn]; exact hv)));clear h hm hg hn hb0 hv
      go_enter Tryz.func17,Tryz.ntmps17
      go_wp2_with fail;refine (scheck_spec b g _).mono ?_;rintro e w1 ⟨rfl,rfl⟩;rw [HG.out];go_wp2_with fail;refine HL.out.mono ?_;rintro e w1 ⟨rfl,rfl⟩;go_wp2_with fail;refine bodyPost_ret (ret_rep rfl _ _ w.heap.size #[.int .i64 0,.int .i64 0,.int .i64 0,.bool false] (.int .i64 2) _ rfl rfl HB.out Tryz.underlying36 rfl HRI.out) rfl (OneP.no HM.out.1 HM.out.2 ((Upd.refl [] w).alloc _) HE.out (by decide))
end Go.Proofs.YtpfafhmkbcahhaaGreat
