/- The document's interaction matrix: walked. -/
import Derived.Test.YtnenhecnkidnpaaGreatPL30
import Derived.Test.YtnenhecnkidnpaaGreatPL25
namespace Go.Proofs.YtnenhecnkidnpaaGreat
open Go.RowKit Go.Maps Go.ChangeMaps Go.WideShapes

set_option maxRecDepth 100000 in
set_option maxHeartbeats 3200000 in
theorem rmatrix_spec (m : Nat) (M : MV) (p : MPtr) (Z : List Nat) (w : World) (h : ModIn w m M p Z) (hZ : ∀ k, k ∈ Z → k < w.heap.size) (hf : M.Fit) :
    Calls Tryz.prog 39 #[.pointer (some ⟨m, 0, none⟩)] w fun e w' => ∃ g : Nat, e = .returned (.slice (some ⟨g, 0, none⟩) M.n M.n) ∧ MatR w g M.n ((M.tabs.map supT).foldl (matRow M.n) (List.replicate M.n 0)) w' := by
  obtain ⟨i2, hi2, hz2, hs2, hb2⟩ := info_parts Tryz.infoU64
  have HI := Lib.hid (And.intro hi2 (And.intro hz2 (And.intro hs2 hb2)))
  have HM := Lib.hid h
  have HZ := Lib.hid hZ
  have HF := Lib.hid hf
  have hn6 := hf.n6
  obtain ⟨c0, c1, c2, c3, c4⟩ := h.cells
  have HTN : Hid (∀ t, t ∈ M.tabs → t.n = M.n) := fun t ht => (hf.tn t ht).2
  clear h hZ hf hi2 hz2 hs2 hb2
  go_enter Tryz.func39, Tryz.ntmps39
  go_wp2_with (refine wpList_make_full _ rfl (.tmp 11) (.tmp 11) 23 rfl w.heap.size 65 i2 (.int .u64 0) 1 Tryz.underlying23 HI.out.1 HI.out.2.1 HI.out.2.2.1 .i64 .i64 _ _ M.n rfl rfl rfl rfl (by rw [HI.out.2.2.2]; omega) (by unfold maxLen; omega) (Nat.le_refl _) ?_)
  obtain ⟨g, hg⟩ : ∃ g, w.heap.size = g := ⟨_, rfl⟩
  rw [hg]
  intro w2 ho hgr
  have HM0 : Hid (MatR w g M.n (List.replicate M.n 0) w2) := by
    refine ⟨?_, by simp, (Upd.refl [] w).grown hgr (by simp)⟩
    rw [hg]
    have e : flatU (List.replicate M.n 0) = (madeCells #[Value.int .u64 0] M.n).toList := by
      rw [flatU, List.map_replicate]
      exact (madeU M.n).symm
    rw [e]; exact ho
  have hg2 := (HM0.out.row.lt g rfl).2
  have hm2 : ModIn w2 m M p (g :: Z) := (HM.out.apart (Z' := g :: Z) (fun k hk => by
    rcases List.mem_cons.1 hk with rfl | hk
    · exact .inr (by omega)
    · exact .inl hk) (fun k hk => List.mem_cons_of_mem _ (HM.out.sz k hk))).keep0 HM0.out.up
  have HTB := Lib.hid (tables_spec m M p (g :: Z) w2 hm2 (fun k hk => by
    rcases List.mem_cons.1 hk with rfl | hk
    · exact hg2
    · exact Nat.lt_of_lt_of_le (HZ.out k hk) HM0.out.up.size) (by have := HF.out.hl; omega))
  have hgw2 : w2.heap.size = w2.heap.size := rfl
  clear ho hgr hm2 c0 c1 c2 c3 c4
  go_wp2_with fail
  refine HTB.out.mono ?_
  rintro e w3 hE
  obtain ⟨v, rfl, hT, hu⟩ := hE.ex
  obtain ⟨ta, tc, rfl, hta⟩ := hT.form
  have HM3 := Lib.hid (HM0.out.keep hu)
  have HT := Lib.hid hT
  have HG3 : Hid (∀ k, k ∈ [g] → k ∈ g :: Z ∨ w3.heap.size ≤ k) := fun k hk => .inl (by simp at hk; simp [hk])
  have HZ3 : Hid (∀ k, k ∈ g :: Z → k < w3.heap.size) := fun k hk => by
    have h3 := hu.size
    rcases List.mem_cons.1 hk with rfl | hk
    · omega
    · have := HZ.out k hk; have := HM0.out.up.size; omega
  have htl : M.tabs.length ≤ 65536 := by unfold MV.tabs; rw [List.length_map]; exact HF.out.hl
  clear hE hT hu HTB
  go_wp2_with fail
  go_loopg [16] M.tabs.length (fun gg s16 wr => ∃ i : Nat, M.tabs.length - i = gg ∧ i ≤ M.tabs.length ∧ s16 = .int .i64 i ∧ MatR w g M.n (((M.tabs.take i).map supT).foldl (matRow M.n) (List.replicate M.n 0)) wr ∧ Upd [g] w3 wr)
  case atStart => exact ⟨0, by omega, by omega, rfl, by simpa using HM3.out, Upd.refl _ _⟩
  case round =>
    obtain ⟨i, rfl, hi, rfl, hM, hU⟩ := hrel
    by_cases hlt : i < M.tabs.length
    · obtain ⟨u, hu⟩ : ∃ u, M.tabs[i]? = some u := ⟨_, List.getElem?_eq_getElem hlt⟩
      obtain ⟨tg, rfl⟩ := hta (by omega)
      obtain ⟨cu, x0, x1, htu⟩ := (HT.out.keep hU HG3.out).at_ hu
      obtain ⟨ua, uc, hcu, _⟩ := row_nil_len htu.row
      subst hcu
      have hil : (i : Int) < (M.tabs.length : Int) := by omega
      have hun : u.n = M.n := HTN.out u (List.mem_of_getElem? hu)
      obtain ⟨z0, z1⟩ := boxT wr (.int .i64 u.n) (.slice ua u.ws.length uc)
      have hUB : Upd [] wr (wr.alloc (.cells #[.int .i64 u.n, .slice ua u.ws.length uc] 72 (0, 0))) := (Upd.refl _ _).alloc _
      have HSU := Lib.hid (sup5_spec (g :: Z) _ u _ (htu.keep0 hUB) (fun k hk => Nat.lt_of_lt_of_le (HZ3.out k hk) (Nat.le_trans hU.size hUB.size)) (by omega))
      have HMB := Lib.hid (And.intro (hM.keep hUB) (hU.then (hUB.mono (by simp) : Upd [g] wr _) (fun k hk => .inl hk)))
      have HS64 := Lib.hid (supT_bits (t := u) (by omega)).1
      obtain ⟨s, hs⟩ : ∃ s, supT u = s := ⟨_, rfl⟩
      rw [hs] at HSU HS64
      have HUT := Lib.hid (And.intro hu hs)
      unfold tabV at HSU
      generalize u.ws.length = UW at *
      generalize u.n = un at *
      subst hun
      clear hM hU htu hUB hu hs
      go_wp2_with fail
      refine HSU.out.mono ?_
      rintro e w4 ⟨rfl, hu4⟩
      have HM4 := Lib.hid (And.intro (HMB.out.1.keep hu4) (HMB.out.2.then (hu4.mono (by simp) : Upd [g] _ _) (fun k hk => .inl hk)))
      clear hu4 HSU
      go_wp2_with fail
      go_loopg [24] M.n (fun gg s24 wr2 => ∃ v : Nat, M.n - v = gg ∧ v ≤ M.n ∧ s24 = .int .i64 v ∧ MatR w g M.n ((List.range v).foldl (matUpd s) (((M.tabs.take i).map supT).foldl (matRow M.n) (List.replicate M.n 0))) wr2 ∧ Upd [g] w3 wr2)
      case atStart => exact ⟨0, by omega, by omega, rfl, HM4.out.1, HM4.out.2⟩
      case round =>
        obtain ⟨v, rfl, hv, rfl, hMv, hUv⟩ := hrel
        by_cases hvt : v < M.n
        · have hvi : (v : Int) < (M.n : Int) := by omega
          have hv64 : v < 64 := by omega
          generalize hMM : (List.range v).foldl (matUpd s) (((M.tabs.take i).map supT).foldl (matRow M.n) (List.replicate M.n 0)) = MM at hMv
          have hmg : ∃ x, MM[v]? = some x := ⟨_, List.getElem?_eq_getElem (by rw [hMv.len]; exact hvt)⟩
          obtain ⟨x, hx⟩ := hmg
          have cx := row_cell hMv.row (j := v) (u := .int .u64 x) (by simp [flatU, hx])
          have fx := row_frozen hMv.row v
          have HMV := Lib.hid (And.intro hMv (And.intro hUv (And.intro hMM hx)))
          have hbm := bitT_mod_t HS64.out v
          clear hMv hUv hMM hx
          cases hbt : bitT s v with
          | true =>
            rw [hbt, if_pos rfl] at hbm
            have HN : Hid ((List.range (v + 1)).foldl (matUpd s) (((M.tabs.take i).map supT).foldl (matRow M.n) (List.replicate M.n 0)) = MM.set v (orNotT x s v)) := by
              show _ = _
              rw [List.range_succ, List.foldl_append, HMV.out.2.2.1]
              simp only [List.foldl_cons, List.foldl_nil, matUpd]
              rw [hbt, if_pos rfl, List.getD_eq_getElem?_getD, HMV.out.2.2.2]; rfl
            clear hbt
            go_wp2_with fail
            go_region
            go_wp2_with fail
            go_roundg (M.n - (v + 1))
            case measure => omega
            case rel =>
              refine ⟨v + 1, rfl, by omega, by simp, ?_, ?_⟩
              · rw [HN.out]
                exact (HMV.out.1.set hvt (orNotT x s v)).keep ((Upd.refl [] _).drew)
              · exact (HMV.out.2.1.setCell (p := ⟨g, v, none⟩) (.inl (by simp)) _).drew
          | false =>
            rw [hbt] at hbm
            simp only [Bool.false_eq_true, if_false] at hbm
            have HN : Hid ((List.range (v + 1)).foldl (matUpd s) (((M.tabs.take i).map supT).foldl (matRow M.n) (List.replicate M.n 0)) = MM) := by
              show _ = _
              rw [List.range_succ, List.foldl_append, HMV.out.2.2.1]
              simp only [List.foldl_cons, List.foldl_nil, matUpd]
              rw [hbt]; rfl
            clear hbt
            go_wp2_with fail
            go_roundg (M.n - (v + 1))
            case measure => omega
            case rel => exact ⟨v + 1, rfl, by omega, by simp, by rw [HN.out]; exact HMV.out.1, HMV.out.2.1⟩
        · obtain rfl : v = M.n := by omega
          have hvi : ¬ ((M.n : Int) < (M.n : Int)) := by omega
          have HE := Lib.hid (And.intro hMv hUv)
          clear hMv hUv
          go_wp2_with fail
          go_roundg (M.tabs.length - (i + 1))
          case measure => omega
          case rel =>
            refine ⟨i + 1, rfl, by omega, by simp, ?_, HE.out.2⟩
            rw [List.take_add_one, HUT.out.1]
            simp only [Option.toList_some, List.map_append, List.map_cons, List.map_nil, List.foldl_append, List.foldl_cons, List.foldl_nil, HUT.out.2]
            exact HE.out.1
    · obtain rfl : i = M.tabs.length := by omega
      have hil : ¬ ((M.tabs.length : Int) < (M.tabs.length : Int)) := by omega
      rw [List.take_length] at hM
      have HE := Lib.hid hM
      clear hM hU
      go_wp2_with fail
      go_ret
      exact ⟨g, rfl, HE.out⟩
end Go.Proofs.YtnenhecnkidnpaaGreat


/- InteractAsks: walked. -/
namespace Go.Proofs.YtnenhecnkidnpaaGreat
open Go.RowKit Go.Maps Go.ChangeMaps Go.WideShapes

theorem sets_same (va vb : Value) (ba bb n : Nat) (l : List Int) (w : World) (h1 : w.ownsRow ba 65 1 va n (flatU l)) (h2 : w.ownsRow bb 65 1 vb n (flatU l)) (hl : l.length = n) (hn : n ≤ 1099511627776) :
    Calls Tryz.prog 40 #[va, vb] w fun e w' => e = .returned (.bool true) ∧ Upd [] w w' := by
  subst hl
  refine (sets_spec va vb ba bb l l w h1 h2 hn hn).mono fun e w' P => ?_
  rw [decide_eq_true (rfl : l = l)] at P
  exact P

set_option maxRecDepth 100000 in
set_option maxHeartbeats 6400000 in
theorem interactAsks_walk (n room a1 : Int) (la wa : Option Addr) (ln lc wn wk : Nat) (Ls Ws : List Int) (w : World) (hL : RowOf w .i64 la ln Ls) (hW : RowOf w .u64 wa wn Ws) (hU : ∀ x, x ∈ Ws → U64 x) :
    Calls Tryz.prog 8 #[.agg #[.int .i64 n, .int .i64 room, .slice la ln lc, .slice wa wn wk], .int .i64 a1] w fun e w' => e = .returned (.bool true) ∧ Upd [] w w' := by
  have HLD : Hid (∀ x : World, Upd [] w x → Calls Tryz.prog 30 #[.agg #[.int .i64 n, .int .i64 room, .slice la ln lc, .slice wa wn wk]] x fun e w' => LaidQ room x e w') := fun x u =>
    laid_spec n room la wa ln lc wn wk Ls Ws x (hL.keep0 u) (hW.keep0 u) hU
  have HU0 := Lib.hid ((Upd.refl [] w).alloc (.cells #[.int .i64 n, .int .i64 room, .slice la ln lc, .slice wa wn wk] 25 (0, 0)))
  clear hL hW hU
  go_enter Tryz.func8, Tryz.ntmps8
  go_wp2_with fail
  refine (HLD.out _ HU0.out).mono ?_
  rintro e w1 hE
  obtain ⟨b, m, _, _, K, F, M, p, refs, tabs, rfl, hm, hlg, _, _, hu, _, _, _, _, hkt, hmt⟩ := hE.ex
  obtain ⟨xa, xc, rfl, _⟩ := row_nil_len hm.rr
  obtain ⟨ya, yc, rfl, _⟩ := hm.tt.form
  have e0 : worldV b m (.slice xa refs.length xc) (.slice ya tabs.length yc) = .agg #[.pointer (some ⟨b, 0, none⟩), .pointer (some ⟨m, 0, none⟩), .slice xa refs.length xc, .slice ya tabs.length yc] := rfl
  rw [e0]
  have hbx := boxW w1 (.pointer (some ⟨b, 0, none⟩)) (.pointer (some ⟨m, 0, none⟩)) (.slice xa refs.length xc) (.slice ya tabs.length yc)
  have hu2 : Upd [] w1 (w1.alloc (.cells #[.pointer (some ⟨b, 0, none⟩), .pointer (some ⟨m, 0, none⟩), .slice xa refs.length xc, .slice ya tabs.length yc] 31 (0, 0))) := (Upd.refl _ _).alloc _
  obtain ⟨wA, hwA⟩ : ∃ wA, w1.alloc (.cells #[.pointer (some ⟨b, 0, none⟩), .pointer (some ⟨m, 0, none⟩), .slice xa refs.length xc, .slice ya tabs.length yc] 31 (0, 0)) = wA := ⟨_, rfl⟩
  rw [hwA] at hbx hu2
  have HWA := Lib.hid hwA
  have HUA := Lib.hid ((HU0.out.trans hu).trans hu2)
  obtain ⟨cn, _, _, _, _⟩ := hm.mod.cells
  have HX : Hid (∀ x : World, Upd [] wA x → x.cell? ⟨w1.heap.size, 0, none⟩ = some (.pointer (some ⟨b, 0, none⟩)) ∧ x.cell? ⟨w1.heap.size, 1, none⟩ = some (.pointer (some ⟨m, 0, none⟩)) ∧ x.cell? ⟨w1.heap.size, 2, none⟩ = some (.slice xa refs.length xc) ∧ x.cell? ⟨w1.heap.size, 3, none⟩ = some (.slice ya tabs.length yc) ∧ x.cell? ⟨m, 0, none⟩ = some (.int .i64 M.n)) := fun x u =>
    ⟨u.cell0 hbx.1, u.cell0 hbx.2.1, u.cell0 hbx.2.2.1, u.cell0 hbx.2.2.2, (hu2.trans u).cell0 cn⟩
  have HWM : Hid (∀ x : World, Upd [] wA x → WMem x b m (.slice xa refs.length xc) (.slice ya tabs.length yc) K F M p refs tabs) := fun x u => hm.keep0 (hu2.trans u)
  have HLG := Lib.hid hlg
  have HFR : Hid (∀ (x : World) (l : Int), Upd [] wA x → Calls Tryz.prog 44 #[.pointer (some ⟨b, 0, none⟩), .int .i64 l] x fun e w' => e = .returned (.tuple #[.bool (M.freeB l), .int .i64 (M.freeC l)]) ∧ Upd [] x w') := fun x l u => free_laid (HWM.out x u) HLG.out l
  have HDF : Hid (∀ (x : World) (l : Int), Upd [] wA x → Calls Tryz.prog 45 #[.pointer (some ⟨m, 0, none⟩), .int .i64 l] x fun e w' => e = .returned (.tuple #[.bool (M.freeB l), .int .i64 (M.freeC l)]) ∧ Upd [] x w') := fun x l u => docfree_laid (HWM.out x u) HLG.out l
  have HST : Hid (∀ x : World, Upd [] wA x → Calls Tryz.prog 35 #[.agg #[.pointer (some ⟨b, 0, none⟩), .pointer (some ⟨m, 0, none⟩), .slice xa refs.length xc, .slice ya tabs.length yc]] x fun e w' => e = .returned (.bool true) ∧ Upd [] x w') := fun x u =>
    stands_spec b m (.slice xa refs.length xc) (.slice ya tabs.length yc) K F M p refs tabs x (WIn.of (HWM.out x u) HLG.out) (by rw [hkt, hmt]) (by rw [hmt]; simp)
  have hn6 := hlg.fit.n6
  have HMO := Lib.hid (MV.mat_ok hlg.fit)
  clear hE hm hlg hu hkt hmt e0 hbx hu2 hwA cn HLD
  go_upto_region 2 with fail
  rw [HWA.out]
  go_wp2_with fail
  refine (awake14_spec _).mono ?_
  rintro e wB ⟨rfl, hu⟩
  have HUB := Lib.hid hu
  obtain ⟨c0, c1, c2, c3, c4⟩ := HX.out wB hu
  clear hu
  go_wp2_with fail
  refine (rmatrix_spec m M p _ _ (HWM.out _ HUB.out).mod (HWM.out _ HUB.out).z HLG.out.fit).mono ?_
  rintro e w3 ⟨g, rfl, hM⟩
  have HM1 := Lib.hid hM
  have HU3 := Lib.hid (HUB.out.trans hM.up)
  clear hM c0 c1 c2 c3 c4
  obtain ⟨c0, c1, c2, c3, c4⟩ := HX.out w3 HU3.out
  go_wp2_with fail
  refine (matrix_laid (HWM.out _ HU3.out) HLG.out).mono ?_
  rintro e w4 ⟨g2, rfl, hM⟩
  have HM2 := Lib.hid hM
  have HU4 := Lib.hid (HU3.out.trans hM.up)
  have HM1' := Lib.hid (HM1.out.keep hM.up)
  clear hM c0 c1 c2 c3 c4 HM1
  go_wp2_with fail
  refine (sets_same _ _ _ _ M.n M.mat _ HM2.out.row HM1'.out.row HMO.out.2 (by omega)).mono ?_
  rintro e w5 ⟨rfl, hu⟩
  have HU5 := Lib.hid (HU4.out.trans hu)
  have HM5 := Lib.hid (HM1'.out.keep hu)
  clear hu HM1'
  obtain ⟨c0, c1, c2, c3, c4⟩ := HX.out w5 HU5.out
  go_wp2_with fail
  refine (groups_laid (HWM.out _ HU5.out) HLG.out).mono ?_
  rintro e w6 ⟨lv, d, gs, rfl, hG, hr, hu⟩
  have HU6 := Lib.hid (HU5.out.trans hu)
  have HM6 := Lib.hid (HM5.out.keep hu)
  have HG6 := Lib.hid (And.intro hG hr)
  clear hu hG hr c0 c1 c2 c3 c4 HM5
  go_wp2_with fail
  refine (rgroups_spec _ M.n _ M.mat _ HM6.out.row HMO.out.2 (by omega) HMO.out.1).mono ?_
  rintro e w7 ⟨lv2, d2, gs2, rfl, hG, hr, hu⟩
  obtain ⟨rfl, rfl⟩ := HG6.out.1.eq hG
  have HU7 := Lib.hid (HU6.out.trans hu)
  have HR7 := Lib.hid (And.intro hr (row_keep HG6.out.2 fun k hk => hu.block k (HG6.out.2.lt k hk).2 (by simp)))
  have hgl := hG.u.2
  clear hu hG hr
  go_wp2_with fail
  refine (sets_same _ _ _ _ gs.length gs _ HR7.out.2 HR7.out.1 rfl (by omega)).mono ?_
  rintro e w8 ⟨rfl, hu⟩
  have HU8 := Lib.hid (HU7.out.trans hu)
  clear hu
  go_wp2_with fail
  go_loopg [8] (M.n + 3) (fun gg s8 wr => ∃ i : Int, ((M.n : Int) + 1 - i).toNat = gg ∧ -2 ≤ i ∧ i ≤ M.n + 1 ∧ s8 = .int .i64 i ∧ Upd [] wA wr)
  case atStart => exact ⟨-2, by omega, by omega, by omega, rfl, HU8.out⟩
  case round =>
    obtain ⟨i, rfl, hi, hi2, rfl, hU⟩ := hrel
    obtain ⟨c0, c1, c2, c3, c4⟩ := HX.out wr hU
    have HU := Lib.hid hU
    clear hU
    by_cases hlt : i ≤ M.n
    · have hw1 : IntKind.i64.wrap (i + 1) = i + 1 := IntWalk.i64_in _ (by omega)
      by_cases h0 : i = -2
      · subst h0
        go_wp2_with fail
        refine (HFR.out _ a1 HU.out).mono ?_
        rintro e w9 ⟨rfl, hu⟩
        have HU9 := Lib.hid (HU.out.trans hu)
        clear hu c0 c1 c2 c3 c4
        obtain ⟨c0, c1, c2, c3, c4⟩ := HX.out w9 HU9.out
        go_wp2_with fail
        refine (HDF.out _ a1 HU9.out).mono ?_
        rintro e w10 ⟨rfl, hu⟩
        have HU10 := Lib.hid (HU9.out.trans hu)
        clear hu c0 c1 c2 c3 c4
        generalize M.freeB a1 = B
        generalize M.freeC a1 = C
        go_wp2_with fail
        go_roundg (((M.n : Int) + 1 - (-2 + 1)).toNat)
        case measure => omega
        case rel => exact ⟨-2 + 1, rfl, by omega, by omega, rfl, HU10.out⟩
      · have hd : (i == -2) = false := by simpa using h0
        go_wp2_with fail
        refine (HFR.out _ i HU.out).mono ?_
        rintro e w9 ⟨rfl, hu⟩
        have HU9 := Lib.hid (HU.out.trans hu)
        clear hu c0 c1 c2 c3 c4
        obtain ⟨c0, c1, c2, c3, c4⟩ := HX.out w9 HU9.out
        go_wp2_with fail
        refine (HDF.out _ i HU9.out).mono ?_
        rintro e w10 ⟨rfl, hu⟩
        have HU10 := Lib.hid (HU9.out.trans hu)
        clear hu c0 c1 c2 c3 c4
        generalize M.freeB i = B
        generalize M.freeC i = C
        go_wp2_with fail
        go_roundg (((M.n : Int) + 1 - (i + 1)).toNat)
        case measure => omega
        case rel => exact ⟨i + 1, rfl, by omega, by omega, by simp, HU10.out⟩
    · have hlt2 : ¬ (i ≤ (M.n : Int)) := hlt
      go_wp2_with fail
      refine (HST.out _ HU.out).mono ?_
      rintro e w9 ⟨rfl, hu⟩
      have HU9 := Lib.hid (HU.out.trans hu)
      clear hu c0 c1 c2 c3 c4
      go_wp2_with fail
      go_ret
      exact ⟨rfl, HUA.out.trans HU9.out⟩
end Go.Proofs.YtnenhecnkidnpaaGreat

