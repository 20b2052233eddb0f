/- InteractKeeps: walked. -/
import Derived.Test.YtnenhecnkidnpaaGreatPL31
import Derived.Deep.RegionHeld3
namespace Go.Proofs.YtnenhecnkidnpaaGreat
open Go.RowKit Go.Maps Go.ChangeMaps Go.WideShapes

/-- a matrix and groups, both new -/
structure TwoR (w : World) (n : Nat) (mt gs : List Int) (s7 s8 : Value) (w' : World) : Prop where
  ex : ∃ (g : Nat) (fa : Option Addr) (fc : Nat), s7 = .slice (some ⟨g, 0, none⟩) n n ∧ s8 = .slice fa gs.length fc ∧ MatR w g n mt w' ∧ w'.ownsRow w.heap.size 65 1 (.slice fa gs.length fc) gs.length (flatU gs) ∧ (∀ k, (Value.slice fa gs.length fc).ownBlock = some k → k ≠ g)

theorem TwoR.of {w w0 w5 w5' w6 wE : World} {n g : Nat} {mt gs : List Int} {lv : Value} (h0 : Upd [] w w0) (hM : MatR w0 g n mt w5) (hu : Upd [] w5 w5') (hr : w6.ownsRow w5'.heap.size 65 1 lv gs.length (flatU gs)) (hu2 : Upd [] w5' w6) (hu3 : Upd [] w6 wE) : TwoR w n mt gs (.slice (some ⟨g, 0, none⟩) n n) lv wE := by
  obtain ⟨fa, fc, rfl, _⟩ := row_nil_len hr
  have h1 := hM.row.lt g rfl
  have h2 := hu.size
  have h3 := hM.up.size
  have h4 := h0.size
  have hr' := row_keep hr fun k hk => hu3.block k (hr.lt k hk).2 (by simp)
  refine ⟨g, fa, fc, rfl, rfl, ⟨?_, hM.len, h0.trans (hM.up.trans (hu.trans (hu2.trans hu3)))⟩, ?_, fun k hk => by have := (hr.lt k hk).1; omega⟩
  · exact row_base (row_keep hM.row fun k hk => (hu.trans (hu2.trans hu3)).block k (hM.row.lt k hk).2 (by simp)) h4
  · exact row_base hr' (by omega)

set_option maxRecDepth 100000 in
set_option maxHeartbeats 6400000 in
theorem interactKeeps_walk (n room : Int) (la wa : Option Addr) (ln lc wn wk : Nat) (Ls Ws : List Int) (w : World) (hL : RowOf w .i64 la ln Ls) (hW : RowOf w .u64 wa wn Ws) (hU : ∀ x, x ∈ Ws → U64 x) :
    Calls Tryz.prog 9 #[.agg #[.int .i64 n, .int .i64 room, .slice la ln lc, .slice wa wn wk]] w fun e w' => e = .returned (.bool true) ∧ Upd [] w w' := by
  have HLD : Hid (∀ x : World, Upd [] w x → Calls Tryz.prog 30 #[.agg #[.int .i64 n, .int .i64 room, .slice la ln lc, .slice wa wn wk]] x fun e w' => LaidQ room x e w') := fun x u =>
    laid_spec n room la wa ln lc wn wk Ls Ws x (hL.keep0 u) (hW.keep0 u) hU
  have HU0 := Lib.hid ((Upd.refl [] w).alloc (.cells #[.int .i64 n, .int .i64 room, .slice la ln lc, .slice wa wn wk] 25 (0, 0)))
  obtain ⟨ti, hi, hz, hs, hb⟩ := info_parts Tryz.infoU64
  have HI := Lib.hid (And.intro hi (And.intro hz (And.intro hs hb)))
  clear hL hW hU hi hz hs hb
  go_enter Tryz.func9, Tryz.ntmps9
  go_wp2_with fail
  refine (HLD.out _ HU0.out).mono ?_
  rintro e w1 hE
  obtain ⟨b, m, _, _, K, F, M, p, refs, tabs, rfl, hm, hlg, _, _, hu, _, _, _, _, hkt, hmt⟩ := hE.ex
  obtain ⟨xa, xc, rfl, _⟩ := row_nil_len hm.rr
  obtain ⟨ya, yc, rfl, _⟩ := hm.tt.form
  have e0 : worldV b m (.slice xa refs.length xc) (.slice ya tabs.length yc) = .agg #[.pointer (some ⟨b, 0, none⟩), .pointer (some ⟨m, 0, none⟩), .slice xa refs.length xc, .slice ya tabs.length yc] := rfl
  rw [e0]
  have hbx := boxW w1 (.pointer (some ⟨b, 0, none⟩)) (.pointer (some ⟨m, 0, none⟩)) (.slice xa refs.length xc) (.slice ya tabs.length yc)
  have hu2 : Upd [] w1 (w1.alloc (.cells #[.pointer (some ⟨b, 0, none⟩), .pointer (some ⟨m, 0, none⟩), .slice xa refs.length xc, .slice ya tabs.length yc] 31 (0, 0))) := (Upd.refl _ _).alloc _
  obtain ⟨wA, hwA⟩ : ∃ wA, w1.alloc (.cells #[.pointer (some ⟨b, 0, none⟩), .pointer (some ⟨m, 0, none⟩), .slice xa refs.length xc, .slice ya tabs.length yc] 31 (0, 0)) = wA := ⟨_, rfl⟩
  rw [hwA] at hbx hu2
  have HWA := Lib.hid hwA
  have HUA := Lib.hid ((HU0.out.trans hu).trans hu2)
  have HX : Hid (∀ x : World, Upd [] wA x → x.cell? ⟨w1.heap.size, 0, none⟩ = some (.pointer (some ⟨b, 0, none⟩)) ∧ x.cell? ⟨w1.heap.size, 1, none⟩ = some (.pointer (some ⟨m, 0, none⟩)) ∧ x.cell? ⟨w1.heap.size, 2, none⟩ = some (.slice xa refs.length xc) ∧ x.cell? ⟨w1.heap.size, 3, none⟩ = some (.slice ya tabs.length yc)) := fun x u =>
    ⟨u.cell0 hbx.1, u.cell0 hbx.2.1, u.cell0 hbx.2.2.1, u.cell0 hbx.2.2.2⟩
  have HWM : Hid (∀ x : World, Upd [] wA x → WMem x b m (.slice xa refs.length xc) (.slice ya tabs.length yc) K F M p refs tabs) := fun x u => hm.keep0 (hu2.trans u)
  have HLG := Lib.hid hlg
  have HMX : Hid (∀ x : World, Upd [] wA x → Calls Tryz.prog 41 #[.pointer (some ⟨b, 0, none⟩)] x fun e w' => ∃ g : Nat, e = .returned (.slice (some ⟨g, 0, none⟩) M.n M.n) ∧ MatR x g M.n M.mat w') := fun x u => matrix_laid (HWM.out x u) HLG.out
  have HGX : Hid (∀ x : World, Upd [] wA x → Calls Tryz.prog 42 #[.pointer (some ⟨b, 0, none⟩)] x fun e w' => ∃ (lv : Value) (d : Int) (gs : List Int), e = .returned lv ∧ GrS M.mat M.n M.n d gs ∧ w'.ownsRow x.heap.size 65 1 lv gs.length (flatU gs) ∧ Upd [] x w') := fun x u => groups_laid (HWM.out x u) HLG.out
  have hn6 := hlg.fit.n6
  have HMO := Lib.hid (MV.mat_ok hlg.fit)
  clear hE hm hlg hu hkt hmt e0 hbx hu2 hwA HLD
  go_upto_region 2 with fail
  rw [HWA.out]
  go_wp2_with fail
  refine (awake14_spec _).mono ?_
  rintro e wB ⟨rfl, hu⟩
  have HUB := Lib.hid hu
  obtain ⟨c0, c1, c2, c3⟩ := HX.out wB hu
  clear hu
  go_wp2_with fail
  refine (rmatrix_spec m M p _ _ (HWM.out _ HUB.out).mod (HWM.out _ HUB.out).z HLG.out.fit).mono ?_
  rintro e w3 ⟨g, rfl, hM⟩
  have HM1 := Lib.hid hM
  have HU3 := Lib.hid (HUB.out.trans hM.up)
  clear hM c0 c1 c2 c3
  go_wp2_with fail
  refine (rgroups_spec _ M.n _ M.mat _ HM1.out.row HMO.out.2 (by omega) HMO.out.1).mono ?_
  rintro e w4 ⟨lv0, d, gs, rfl, hG, hr, hu⟩
  have HG := Lib.hid hG
  have HU4 := Lib.hid (HU3.out.trans hu)
  have HM4 := Lib.hid (HM1.out.keep hu)
  have HR4 := Lib.hid hr
  have hgl := hG.u.2
  have c0 := (HX.out w4 HU4.out).1
  clear hG hr hu HM1
  go_upto_region 6 with fail
  go_cut [7, 8] from 29 to 34 (fun s7 s8 wc => TwoR w4 M.n M.mat gs s7 s8 wc)
  case first =>
    go_region_held3 (fun w' => w'.cell? ⟨w1.heap.size, 0, none⟩ = some (.pointer (some ⟨b, 0, none⟩))) (exact Upd.cell0 (by repeat' (first | exact HV6.out | exact HV5.out | exact Upd.refl _ _ | refine Upd.drew ?_)) c0) (first | (go_at_call_of 41 (Value.pointer (some ⟨b, 0, none⟩)); refine (HMX.out _ (by repeat' (first | exact HU4.out | refine Upd.drew ?_))).mono ?_; rintro e w5 ⟨ga, rfl, hM5⟩; have HV5 : Hid (Upd [] w4 w5) := (by first | exact hM5.up | exact (Upd.refl [] _).drew.trans hM5.up); have HM5 := Lib.hid hM5; clear hM5) | (go_at_call_of 42 (Value.pointer (some ⟨b, 0, none⟩)); refine (HGX.out _ (by repeat' (first | exact HU4.out.trans HV5.out | refine Upd.drew ?_))).mono ?_; rintro e w6 ⟨lvb, db, gsb, rfl, hGb, hrb, hub⟩; have HV6 : Hid (Upd [] w4 w6) := (by first | exact HV5.out.trans hub | exact HV5.out.drew.trans hub); obtain ⟨_, hgb⟩ := HG.out.eq hGb; subst hgb; have HB6 := Lib.hid (And.intro True.intro (And.intro hrb hub)); clear hGb hrb hub))
    all_goals go_wp2_with fail
    all_goals go_meet
    all_goals (first | exact TwoR.of (Upd.refl _ _) HM5.out (Upd.refl _ _) HB6.out.2.1 HB6.out.2.2 (Upd.refl _ _) | exact TwoR.of (Upd.refl _ _).drew HM5.out (Upd.refl _ _) HB6.out.2.1 HB6.out.2.2 (Upd.refl _ _) | exact TwoR.of (Upd.refl _ _).drew HM5.out (Upd.refl _ _).drew HB6.out.2.1 HB6.out.2.2 (Upd.refl _ _))
  case rest =>
    obtain ⟨ga, fb, fbc, rfl, rfl, hMa, hRb, hneb⟩ := hcut.ex
    have HA := Lib.hid (And.intro hMa (And.intro hRb hneb))
    have HU6 := Lib.hid (HU4.out.trans hMa.up)
    have HMA := Lib.hid (HM4.out.keep hMa.up)
    have c0 := (HX.out wc HU6.out).1
    clear hMa hRb hneb hcut
    generalize wc = wu at *
    go_upto_region 7 with fail
    go_cut [9, 10] from 35 to 40 (fun s9 s10 wc => TwoR wu M.n M.mat gs s9 s10 wc)
    case first =>
      go_region_held3 (fun w' => w'.cell? ⟨w1.heap.size, 0, none⟩ = some (.pointer (some ⟨b, 0, none⟩))) (exact Upd.cell0 (by repeat' (first | exact HV6.out | exact HV5.out | exact Upd.refl _ _ | refine Upd.drew ?_)) c0) (first | (go_at_call_of 41 (Value.pointer (some ⟨b, 0, none⟩)); refine (HMX.out _ (by repeat' (first | exact HU6.out | refine Upd.drew ?_))).mono ?_; rintro e w5 ⟨gc, rfl, hM5⟩; have HV5 : Hid (Upd [] wu w5) := (by first | exact hM5.up | exact (Upd.refl [] _).drew.trans hM5.up); have HM5 := Lib.hid hM5; clear hM5) | (go_at_call_of 42 (Value.pointer (some ⟨b, 0, none⟩)); refine (HGX.out _ (by repeat' (first | exact HU6.out.trans HV5.out | refine Upd.drew ?_))).mono ?_; rintro e w6 ⟨lvb, db, gsb, rfl, hGb, hrb, hub⟩; have HV6 : Hid (Upd [] wu w6) := (by first | exact HV5.out.trans hub | exact HV5.out.drew.trans hub); obtain ⟨_, hgb⟩ := HG.out.eq hGb; subst hgb; have HB6 := Lib.hid (And.intro True.intro (And.intro hrb hub)); clear hGb hrb hub))
      all_goals go_wp2_with fail
      all_goals go_meet
      all_goals (first | exact TwoR.of (Upd.refl _ _) HM5.out (Upd.refl _ _) HB6.out.2.1 HB6.out.2.2 (Upd.refl _ _) | exact TwoR.of (Upd.refl _ _).drew HM5.out (Upd.refl _ _) HB6.out.2.1 HB6.out.2.2 (Upd.refl _ _) | exact TwoR.of (Upd.refl _ _).drew HM5.out (Upd.refl _ _).drew HB6.out.2.1 HB6.out.2.2 (Upd.refl _ _))
    case rest =>
      obtain ⟨gc, fd, fdc, rfl, rfl, hMc, hRd, _⟩ := hcut.ex
      have HUD := Lib.hid hMc.up
      have HCD := Lib.hid (And.intro hMc hRd)
      have HU7 := Lib.hid (HU6.out.trans hMc.up)
      have HM7 := Lib.hid (HMA.out.keep hMc.up)
      clear hMc hRd hcut c0
      go_wp2_with fail
      refine (sets_same _ _ _ _ M.n M.mat _ ((HA.out.1.keep HUD.out).row) HM7.out.row HMO.out.2 (by omega)).mono ?_
      rintro e w8 ⟨rfl, hu⟩
      have HU8 := Lib.hid hu
      clear hu
      go_wp2_with fail
      refine (sets_same _ _ _ _ gs.length gs _ (row_keep HA.out.2.1 fun k hk => (HUD.out.trans HU8.out).block k (HA.out.2.1.lt k hk).2 (by simp)) (row_keep HR4.out fun k hk => (HA.out.1.up.trans (HUD.out.trans HU8.out)).block k (HR4.out.lt k hk).2 (by simp)) rfl (by omega)).mono ?_
      rintro e w9 ⟨rfl, hu⟩
      have HU9 := Lib.hid (HU8.out.trans hu)
      clear hu
      have HA9 : Hid (MatR w4 ga M.n M.mat w9) := HA.out.1.keep (HUD.out.trans HU9.out)
      go_wp2_with fail
      go_loopg [53] M.n (fun gg s53 wr => ∃ (i : Nat) (l : List Int), M.n - i = gg ∧ i ≤ M.n ∧ s53 = .int .i64 i ∧ MatR w4 ga M.n l wr ∧ Upd [ga] w9 wr)
      case atStart => exact ⟨0, M.mat, by omega, by omega, rfl, HA9.out, Upd.refl _ _⟩
      case round =>
        obtain ⟨i, l, rfl, hi, rfl, hMl, hUl⟩ := hrel
        by_cases hlt : i < M.n
        · have hil : (i : Int) < (M.n : Int) := by omega
          obtain ⟨x, hx⟩ : ∃ x, l[i]? = some x := ⟨_, List.getElem?_eq_getElem (by rw [hMl.len]; exact hlt)⟩
          have cx := row_cell hMl.row (j := i) (u := .int .u64 x) (by simp [flatU, hx])
          have fx := row_frozen hMl.row i
          have HML := Lib.hid (And.intro hMl hUl)
          clear hMl hUl hx
          go_wp2_with fail
          go_roundg (M.n - (i + 1))
          case measure => omega
          case rel => exact ⟨i + 1, _, rfl, by omega, by simp, HML.out.1.set hlt _, HML.out.2.setCell (p := ⟨ga, i, none⟩) (.inl (by simp)) _⟩
        · obtain rfl : i = M.n := by omega
          have hil : ¬ ((M.n : Int) < (M.n : Int)) := by omega
          have HML := Lib.hid (And.intro hMl hUl)
          clear hMl hUl
          have hRB0 := row_keep HA.out.2.1 fun k hk => (HUD.out.trans HU9.out).block k (HA.out.2.1.lt k hk).2 (by simp)
          have HRB : Hid (wr.ownsRow w4.heap.size 65 1 (.slice fb gs.length fbc) gs.length (flatU gs)) := row_keep hRB0 fun k hk => HML.out.2.block k (hRB0.lt k hk).2 (by simpa using HA.out.2.2 k hk)
          clear hRB0
          obtain ⟨sb, hsb⟩ : ∃ sb, (Value.slice fb gs.length fbc).ownBlock.toList = sb := ⟨_, rfl⟩
          have HSB : Hid (∀ k, k ∈ sb ↔ (Value.slice fb gs.length fbc).ownBlock = some k) := fun k => by rw [← hsb]; simp
          clear hsb
          generalize wr = wq at *
          go_wp2_with fail
          go_loopg [67] gs.length (fun gg s67 wx => ∃ (j : Nat) (l2 : List Int), gs.length - j = gg ∧ j ≤ gs.length ∧ s67 = .int .i64 j ∧ l2.length = gs.length ∧ wx.ownsRow w4.heap.size 65 1 (.slice fb gs.length fbc) gs.length (flatU l2) ∧ Upd sb wq wx)
          case atStart => exact ⟨0, gs, by omega, by omega, rfl, rfl, HRB.out, Upd.refl _ _⟩
          case round =>
            obtain ⟨j, l2, rfl, hj, rfl, hl2, hR2, hU2⟩ := hrel
            by_cases hjt : j < gs.length
            · have hjl : (j : Int) < (gs.length : Int) := by omega
              obtain ⟨gb, rfl⟩ := row_some hR2 (by omega)
              obtain ⟨x, hx⟩ : ∃ x, l2[j]? = some x := ⟨_, List.getElem?_eq_getElem (by omega)⟩
              have cx := row_cell hR2 (j := j) (u := .int .u64 x) (by simp [flatU, hx])
              have fx := row_frozen hR2 j
              have HR2 : Hid (∀ y : Int, (wr.setCell ⟨gb, j, none⟩ (.int .u64 y)).ownsRow w4.heap.size 65 1 (.slice (some ⟨gb, 0, none⟩) gs.length fbc) gs.length (flatU (l2.set j y))) := fun y => by
                have := row_set hR2 (j := j) (by omega) (.int .u64 y)
                have e : (flatU l2).set j (.int .u64 y) = flatU (l2.set j y) := by simp [flatU, List.map_set]
                rw [← e]; exact this
              have HU2 := Lib.hid hU2
              have hgs : gb ∈ sb := (HSB.out gb).2 rfl
              clear hR2 hU2 hx
              go_wp2_with fail
              go_roundg (gs.length - (j + 1))
              case measure => omega
              case rel => exact ⟨j + 1, _, rfl, by omega, by simp, by simpa using hl2, HR2.out _, HU2.out.setCell (p := ⟨gb, j, none⟩) (.inl hgs) _⟩
            · obtain rfl : j = gs.length := by omega
              have hjl : ¬ ((gs.length : Int) < (gs.length : Int)) := by omega
              have hMx : wr.ownsRow w4.heap.size 65 1 (.slice (some ⟨ga, 0, none⟩) M.n M.n) M.n (flatU l) := row_keep HML.out.1.row fun k hk => hU2.block k (HML.out.1.row.lt k hk).2 fun hm => HA.out.2.2 k ((HSB.out k).1 hm) (by simpa [Value.ownBlock] using hk.symm)
              have HP := Lib.hid (And.intro hMx (And.intro hR2 (And.intro hl2 hU2)))
              have h4w := HML.out.1.up.size
              have h4x := hU2.size
              clear hMx hR2 hl2 hU2
              have HSZ : Hid (∀ k, k ∈ ga :: sb → k < wu.heap.size ∧ w4.heap.size ≤ k) := fun k hk => by
                rcases List.mem_cons.1 hk with rfl | hk
                · exact ⟨(HA.out.1.row.lt k rfl).2, (HA.out.1.row.lt k rfl).1⟩
                · exact ⟨(HA.out.2.1.lt k ((HSB.out k).1 hk)).2, (HA.out.2.1.lt k ((HSB.out k).1 hk)).1⟩
              have HC3 : Hid (∀ u, u ∈ [Value.int .u64 5, Value.int .u64 6, Value.int .u64 7] → u.oneCell' = true) := by intro u hu; simp at hu; rcases hu with rfl | rfl | rfl <;> rfl
              have hbs : w4.heap.size ≤ (wr.alloc (.cells #[.int .u64 5, .int .u64 6, .int .u64 7] 65 (0, 0))).heap.size := by rw [World.size_alloc]; omega
              go_wp2_with (at_builtin; go_must (refine wpList_append_lies _ rfl (.tmp 79) (.tmp 80) 23 rfl w4.heap.size 65 ti _ 1 8 Tryz.underlying23 HI.out.1 HI.out.2.1 HI.out.2.2.1 HI.out.2.2.2 (by rfl) (by decide) _ M.n (flatU l) rfl (HP.out.1.alloc _) ⟨wr.heap.size, 0, none⟩ 3 3 [.int .u64 5, .int .u64 6, .int .u64 7] rfl rfl ?c1 HC3.out (by omega) (by unfold maxLen; omega) (by omega) hbs _ rfl ?_))
              try case c1 => exact World.news_of_block (heap_alloc_new wr (.cells #[.int .u64 5, .int .u64 6, .int .u64 7] 65 (0, 0)))
              intro g5 cap5 w5 hown hgr hat hlt5
              have HA5 : Hid (Upd [ga] wr w5) := ((Upd.refl [ga] wr).alloc _).grown hgr fun k hk => .inl (by simp [Value.ownBlock] at hk; simp [hk])
              have HB5 : Hid (w5.ownsRow w4.heap.size 65 1 (.slice fb gs.length fbc) gs.length (flatU l2)) := row_keep HP.out.2.1 fun k hk => HA5.out.block k (HP.out.2.1.lt k hk).2 (by simpa using HA.out.2.2 k hk)
              have hbs5 : w4.heap.size ≤ (w5.alloc (.cells #[.int .u64 5, .int .u64 6, .int .u64 7] 65 (0, 0))).heap.size := by rw [World.size_alloc]; have := HA5.out.size; omega
              clear hown hgr hat hlt5 hbs
              go_wp2_with (at_builtin; go_must (refine wpList_append_lies _ rfl (.tmp 82) (.tmp 83) 23 rfl w4.heap.size 65 ti _ 1 8 Tryz.underlying23 HI.out.1 HI.out.2.1 HI.out.2.2.1 HI.out.2.2.2 (by rfl) (by decide) _ gs.length (flatU l2) rfl (HB5.out.alloc _) ⟨w5.heap.size, 0, none⟩ 3 3 [.int .u64 5, .int .u64 6, .int .u64 7] rfl rfl ?c2 HC3.out (by omega) (by unfold maxLen; omega) (by omega) hbs5 _ rfl ?_))
              try case c2 => exact World.news_of_block (heap_alloc_new w5 (.cells #[.int .u64 5, .int .u64 6, .int .u64 7] 65 (0, 0)))
              intro g6 cap6 w6 hown hgr hat hlt6
              have HA6 : Hid (Upd sb w5 w6) := ((Upd.refl sb w5).alloc _).grown hgr fun k hk => .inl ((HSB.out k).2 hk)
              have HE9 : Hid (Upd (ga :: sb) w9 w6) := ((HML.out.2.mono (by simp)).trans (HP.out.2.2.2.mono (fun k hk => List.mem_cons_of_mem _ hk)) |>.trans (HA5.out.mono (by simp)) |>.trans (HA6.out.mono (fun k hk => List.mem_cons_of_mem _ hk)))
              have HE4 : Hid (Upd [] w4 w6) := (HA.out.1.up.trans (HUD.out.trans HU9.out)).then HE9.out fun k hk => .inr (HSZ.out k hk).2
              have HED : Hid (∀ k, k < wc.heap.size → wu.heap.size ≤ k → w6.heap[k]? = wc.heap[k]?) := fun k h1 h2 => by
                have h9 := HU9.out.size
                rw [HE9.out.block k (by omega) (fun hm => by have := (HSZ.out k hm).1; omega), HU9.out.block k h1 (by simp)]
              have HCR : Hid (w6.ownsRow wu.heap.size 65 1 (.slice (some ⟨gc, 0, none⟩) M.n M.n) M.n (flatU M.mat)) := row_keep HCD.out.1.row fun k hk => HED.out k (HCD.out.1.row.lt k hk).2 (HCD.out.1.row.lt k hk).1
              have HDR : Hid (w6.ownsRow wu.heap.size 65 1 (.slice fd gs.length fdc) gs.length (flatU gs)) := row_keep HCD.out.2 fun k hk => HED.out k (HCD.out.2.lt k hk).2 (HCD.out.2.lt k hk).1
              have HMR := Lib.hid (HM4.out.keep HE4.out).row
              have HGR : Hid (w6.ownsRow w3.heap.size 65 1 lv0 gs.length (flatU gs)) := row_keep HR4.out fun k hk => HE4.out.block k (HR4.out.lt k hk).2 (by simp)
              have HU6E := Lib.hid (HU4.out.trans HE4.out)
              have c0 := (HX.out w6 HU6E.out).1
              have hw1 : IntKind.i64.wrap ((M.n : Int) + 3 + ((gs.length : Int) + 3)) = (M.n : Int) + 3 + ((gs.length : Int) + 3) := IntWalk.i64_in _ (by omega)
              have hw2 : (0 : Int) < (M.n : Int) + 3 + ((gs.length : Int) + 3) := by omega
              have hw3 : decide ((0 : Int) < (M.n : Int) + 3 + ((gs.length : Int) + 3)) = true := decide_eq_true hw2
              clear hown hgr hat hlt6 hbs5
              go_wp2_with fail
              refine (sets_same _ _ _ _ M.n M.mat _ HCR.out HMR.out HMO.out.2 (by omega)).mono ?_
              rintro e w10 ⟨rfl, hu⟩
              have HU10 := Lib.hid hu
              clear hu
              go_wp2_with fail
              refine (sets_same _ _ _ _ gs.length gs _ (row_keep HDR.out fun k hk => HU10.out.block k (HDR.out.lt k hk).2 (by simp)) (row_keep HGR.out fun k hk => HU10.out.block k (HGR.out.lt k hk).2 (by simp)) rfl (by omega)).mono ?_
              rintro e w11 ⟨rfl, hu⟩
              have HU11 := Lib.hid (HU10.out.trans hu)
              clear hu c0
              have c0 := (HX.out w11 (HU6E.out.trans HU11.out)).1
              go_wp2_with fail
              refine (HMX.out _ (HU6E.out.trans HU11.out)).mono ?_
              rintro e w12 ⟨ge, rfl, hMe⟩
              have HU12 := Lib.hid (HU11.out.trans hMe.up)
              have HME := Lib.hid hMe
              clear hMe c0
              go_wp2_with fail
              refine (sets_same _ _ _ _ M.n M.mat _ HME.out.row (row_keep HMR.out fun k hk => HU12.out.block k (HMR.out.lt k hk).2 (by simp)) HMO.out.2 (by omega)).mono ?_
              rintro e w13 ⟨rfl, hu⟩
              have HU13 := Lib.hid (HU12.out.trans hu)
              clear hu
              have c0 := (HX.out w13 (HU6E.out.trans HU13.out)).1
              go_wp2_with fail
              refine (HGX.out _ (HU6E.out.trans HU13.out)).mono ?_
              rintro e w14 ⟨lve, de, gse, rfl, hGe, hre, hue⟩
              obtain ⟨_, hge⟩ := HG.out.eq hGe
              subst hge
              have HU14 := Lib.hid (HU13.out.trans hue)
              have HRE := Lib.hid hre
              clear hGe hre hue c0
              go_wp2_with fail
              refine (sets_same _ _ _ _ gs.length gs _ HRE.out (row_keep HGR.out fun k hk => HU14.out.block k (HGR.out.lt k hk).2 (by simp)) rfl (by omega)).mono ?_
              rintro e w15 ⟨rfl, hu⟩
              have HU15 := Lib.hid (HU14.out.trans hu)
              clear hu
              go_wp2_with fail
              go_ret
              exact ⟨rfl, HUA.out.trans (HU6E.out.trans HU15.out)⟩
end Go.Proofs.YtnenhecnkidnpaaGreat

