/- The kernel's Node, Find, Held, Live, Vars. -/
import Derived.Test.YtnenhecnkidnpaaKA
namespace Go.Proofs.Ytnenhecnkidnpaa
open Go.RowKit Go.Maps Go.ChangeMaps Go.WideShapes

set_option maxRecDepth 100000 in
theorem vars_spec (b : Nat) (K : KV) (T : List DM) (q : KPtr) (w : World) (h : KerMem w b K T q) :
    Calls Try.prog 28 #[.pointer (some ⟨b, 0, none⟩)] w fun e w' => e = .returned (.int .i64 K.vars) ∧ w' = w := by
  have c4 : w.cell? ⟨b, 4, none⟩ = some (.int .i64 K.vars) := cell_at h.blk rfl
  clear h
  go_enter Try.func28, Try.ntmps28
  go_wp2_with fail
  go_ret
  exact ⟨rfl, rfl⟩

set_option maxRecDepth 100000 in
theorem live_count (b : Nat) (K : KV) (T : List DM) (q : KPtr) (w : World) (h : KerMem w b K T q) :
    Calls Try.prog 17 #[.pointer (some ⟨b, 0, none⟩)] w fun e w' => e = .returned (.int .i64 ((K.A.used : Int) - 2)) ∧ w' = w := by
  have c0 : w.cell? ⟨b, 0, none⟩ = some (.pointer (some ⟨q.a, 0, none⟩)) := cell_at h.blk rfl
  have h1 := h.ar.ok.us
  have h2 := h.ar.ok.lp
  have h3 := h.ar.ok.pm
  have hu : K.A.used ≤ 1048576 := by omega
  have e1 : IntKind.i64.wrap ((K.A.used : Int) - 2) = (K.A.used : Int) - 2 := IntWalk.i64_in _ (by omega)
  have HA := Lib.hid h.ar
  clear h h1 h2 h3
  go_enter Try.func17, Try.ntmps17
  go_wp2_with fail
  refine (used_spec q.a q.FA K.A w HA.out).mono ?_
  rintro e w1 ⟨rfl, rfl⟩
  go_wp2_with fail
  go_ret
  exact ⟨rfl, rfl⟩

/-- how often a Ref is held -/
def KV.heldI (K : KV) (r : Nat) : Int := (K.hold r : Int)

set_option maxRecDepth 100000 in
theorem held_spec (b r : Nat) (K : KV) (T : List DM) (q : KPtr) (w : World) (h : KerMem w b K T q) (_hl : K.holds.length ≤ 1048576) (hm : K.hold r ≤ 65535) (hr : r ≤ 4294967295) :
    Calls Try.prog 16 #[.pointer (some ⟨b, 0, none⟩), .int .u32 r] w fun e w' => e = .returned (.int .i64 (K.hold r)) ∧ w' = w := by
  have e64 : wrap64 (K.hold r : Int) = (K.hold r : Int) := by unfold wrap64; omega
  obtain ⟨fa, fc, hfv, _⟩ := row_nil_len h.hs
  have hfv' : q.hv = .slice fa K.holds.length fc := by rw [hfv]
  have c3 : w.cell? ⟨b, 3, none⟩ = some (.slice fa K.holds.length fc) := by rw [← hfv']; exact cell_at h.blk rfl
  by_cases hlt : r < K.holds.length
  · obtain ⟨g, c, hq, c3', cu, _, _⟩ := h.holdCell hlt
    have e : fa = some ⟨g, 0, none⟩ ∧ fc = c := by rw [hfv'] at hq; simpa using hq
    obtain ⟨rfl, rfl⟩ := e
    have hd : decide ((K.holds.length : Int) ≤ (r : Int)) = false := by simp; omega
    have hd2 : (r : Int) < (K.holds.length : Int) := by omega
    clear h hfv hfv' hq c3'
    go_enter Try.func16, Try.ntmps16
    go_wp2_with fail
    go_ret
    exact ⟨rfl, rfl⟩
  · have hz : K.hold r = 0 := by
      unfold KV.hold
      rw [List.getD_eq_getElem?_getD, List.getElem?_eq_none (by omega)]; rfl
    have hd : decide ((K.holds.length : Int) ≤ (r : Int)) = true := by simp; omega
    have hd2 : (K.holds.length : Int) ≤ (r : Int) := by omega
    have HZ := Lib.hid hz
    clear h hfv hfv' hz hlt
    go_enter Try.func16, Try.ntmps16
    go_wp2_with fail
    go_ret
    exact ⟨by rw [HZ.out]; rfl, rfl⟩

theorem box3n {w1 : World} {B : Nat} {x y z : Value} {t : TypeId} (h : w1.heap[B]? = some (.cells #[x, y, z] t (0, 0))) (x' y' z' : Value) :
    (((w1.setCell ⟨B, 0, none⟩ x').setCell ⟨B, 1, none⟩ y').setCell ⟨B, 2, none⟩ z').cell? ⟨B, 0, none⟩ = some x' ∧
    (((w1.setCell ⟨B, 0, none⟩ x').setCell ⟨B, 1, none⟩ y').setCell ⟨B, 2, none⟩ z').cell? ⟨B, 1, none⟩ = some y' ∧
    (((w1.setCell ⟨B, 0, none⟩ x').setCell ⟨B, 1, none⟩ y').setCell ⟨B, 2, none⟩ z').cell? ⟨B, 2, none⟩ = some z' := by
  have e := heap_set_eq (j := 2) (heap_set_eq (j := 1) (heap_set_eq (j := 0) h x') y') z'
  exact ⟨cell_at e rfl, cell_at e rfl, cell_at e rfl⟩

set_option maxRecDepth 100000 in
theorem nodeof_no (b r : Nat) (K : KV) (T : List DM) (q : KPtr) (w : World) (h : KerMem w b K T q) (hr : r ≤ 4294967295) (ht : K.A.tk r = false) :
    Calls Try.prog 26 #[.pointer (some ⟨b, 0, none⟩), .int .u32 r] w fun e w' => e = .returned (.tuple #[.agg #[.int .i64 0, .int .u32 0, .int .u32 0], .int .i64 3]) ∧ Upd [] w w' := by
  have HM := Lib.hid h
  have HT := Lib.hid ht
  have hb := heap_lt h.blk
  clear h ht
  go_enter Try.func26, Try.ntmps26
  go_wp2_with fail
  refine (live_spec b r K T q _ (HM.out.upd ((Upd.refl [] w).alloc _) (by simp)) hr).mono ?_
  rintro e w1 ⟨rfl, hu⟩
  rw [HT.out]
  have hbx : w1.heap[w.heap.size]? = some (.cells #[.int .i64 0, .int .u32 0, .int .u32 0] 55 (0, 0)) := (hu.block w.heap.size (by simp) (by simp)).trans (heap_alloc_new w _)
  have b0 : w1.cell? ⟨w.heap.size, 0, none⟩ = some (.int .i64 0) := cell_at hbx rfl
  have b1 : w1.cell? ⟨w.heap.size, 1, none⟩ = some (.int .u32 0) := cell_at hbx rfl
  have b2 : w1.cell? ⟨w.heap.size, 2, none⟩ = some (.int .u32 0) := cell_at hbx rfl
  have f0 := frozen_at 0 hbx
  have f1 := frozen_at 1 hbx
  have f2 := frozen_at 2 hbx
  have hbw := heap_lt hbx
  have HX := Lib.hid hbx
  have HU : Hid (Upd [] w w1) := ((Upd.refl [] w).alloc _).trans (hu.mono (by simp))
  clear hu hbx
  go_wp2_with fail
  obtain ⟨r0, r1, r2⟩ := box3n HX.out (.int .i64 0) (.int .u32 0) (.int .u32 0)
  refine bodyPost_ret (v := .tuple #[.agg #[.int .i64 0, .int .u32 0, .int .u32 0], .int .i64 3]) (by simp [results, Try.results26, go_sem, r0, r1, r2]) rfl ⟨rfl, ?_⟩
  exact ((HU.out.setCell (.inr (Nat.le_refl _)) _).setCell (.inr (Nat.le_refl _)) _).setCell (.inr (Nat.le_refl _)) _

set_option maxRecDepth 100000 in
theorem nodeof_yes (b r : Nat) (K : KV) (T : List DM) (q : KPtr) (p : PlaceV) (w : World) (h : KerMem w b K T q) (hr : r ≤ 4294967295) (hp : K.A.list[r]? = some p) (hpt : p.taken = true) :
    Calls Try.prog 26 #[.pointer (some ⟨b, 0, none⟩), .int .u32 r] w fun e w' => e = .returned (.tuple #[.agg #[.int .i64 p.var, .int .u32 p.lo, .int .u32 p.hi], .int .i64 0]) ∧ Upd [] w w' := by
  have HM := Lib.hid h
  have HT : Hid (K.A.tk r = true) := ArenaV.tk_iff.2 ⟨p, hp, hpt⟩
  have HP := Lib.hid (And.intro hp hpt)
  have hb := heap_lt h.blk
  clear h hp hpt
  go_enter Try.func26, Try.ntmps26
  go_wp2_with fail
  refine (live_spec b r K T q _ (HM.out.upd ((Upd.refl [] w).alloc _) (by simp)) hr).mono ?_
  rintro e w1 ⟨rfl, hu⟩
  rw [HT.out]
  have HU1 : Hid (Upd [] w w1) := ((Upd.refl [] w).alloc _).trans (hu.mono (by simp))
  have hbx1 : w1.heap[w.heap.size]? = some (.cells #[.int .i64 0, .int .u32 0, .int .u32 0] 55 (0, 0)) := (hu.block w.heap.size (by simp) (by simp)).trans (heap_alloc_new w _)
  have HX1 := Lib.hid hbx1
  clear hu hbx1
  go_wp2_with fail
  refine (node_spec b r K T q p _ (HM.out.upd HU1.out (by simp)) hr HP.out.1 HP.out.2).mono ?_
  rintro e w2 ⟨rfl, hu⟩
  have hbx : w2.heap[w.heap.size]? = some (.cells #[.int .i64 0, .int .u32 0, .int .u32 0] 55 (0, 0)) := (hu.block w.heap.size (heap_lt HX1.out) (by simp)).trans HX1.out
  have b0 : w2.cell? ⟨w.heap.size, 0, none⟩ = some (.int .i64 0) := cell_at hbx rfl
  have b1 : w2.cell? ⟨w.heap.size, 1, none⟩ = some (.int .u32 0) := cell_at hbx rfl
  have b2 : w2.cell? ⟨w.heap.size, 2, none⟩ = some (.int .u32 0) := cell_at hbx rfl
  have f0 := frozen_at 0 hbx
  have f1 := frozen_at 1 hbx
  have f2 := frozen_at 2 hbx
  have hbw := heap_lt hbx
  have HX := Lib.hid hbx
  have HU := Lib.hid (HU1.out.trans hu)
  clear hu hbx
  go_wp2_with fail
  obtain ⟨r0, r1, r2⟩ := box3n HX.out (.int .i64 p.var) (.int .u32 p.lo) (.int .u32 p.hi)
  refine bodyPost_ret (v := .tuple #[.agg #[.int .i64 p.var, .int .u32 p.lo, .int .u32 p.hi], .int .i64 0]) (by simp [results, Try.results26, go_sem, r0, r1, r2]) rfl ⟨rfl, ?_⟩
  exact ((HU.out.setCell (.inr (Nat.le_refl _)) _).setCell (.inr (Nat.le_refl _)) _).setCell (.inr (Nat.le_refl _)) _

set_option maxRecDepth 100000 in
set_option maxHeartbeats 800000 in
theorem kfind_spec (b : Nat) (v : Int) (lo hi : Nat) (K : KV) (T : List DM) (q : KPtr) (w : World) (h : KerIn w b K T q) (h1 : lo ≤ 4294967295) (h2 : hi ≤ 4294967295) :
    Calls Try.prog 72 #[.pointer (some ⟨b, 0, none⟩), .int .i64 v, .int .u32 lo, .int .u32 hi] w fun e w' =>
      Upd [] w w' ∧ ((∃ r : Nat, K.fitsE v lo hi = 0 ∧ K.Has v lo hi r ∧ e = .returned (.tuple #[.int .u32 r, .bool true])) ∨ ((K.fitsE v lo hi = 0 → lo ≠ hi ∧ ∀ r, ¬ K.At r v.toNat lo hi) ∧ e = .returned (.tuple #[.int .u32 0, .bool false]))) := by
  have HK := Lib.hid h
  by_cases hf : K.fitsE v lo hi = 0
  · obtain ⟨n, rfl, hn, hl, hh, hlt⟩ := KV.fits0 hf
    have HF := Lib.hid hf
    by_cases hlh : lo = hi
    · subst hlh
      clear h hf hl hh hlt
      go_enter Try.func72, Try.ntmps72
      go_wp2_with fail
      refine (fits_spec b n lo lo K T q _ HK.out.mem HK.out.ok.wf HK.out.ok.ord h1 h2).mono ?_
      rintro e w1 ⟨rfl, hu⟩
      rw [HF.out]
      have HU := Lib.hid hu
      clear hu
      go_wp2_with fail
      refine (seek_same b lo n w1).mono ?_
      rintro e w2 ⟨rfl, rfl⟩
      go_wp2_with fail
      go_ret2
      exact ⟨HU.out, .inl ⟨lo, HF.out, .inl ⟨rfl, rfl⟩, rfl⟩⟩
    · have HLH := Lib.hid hlh
      clear h hf hl hh hlt
      go_enter Try.func72, Try.ntmps72
      go_wp2_with fail
      refine (fits_spec b n lo hi K T q _ HK.out.mem HK.out.ok.wf HK.out.ok.ord h1 h2).mono ?_
      rintro e w1 ⟨rfl, hu⟩
      rw [HF.out]
      have HU := Lib.hid hu
      clear hu
      go_wp2_with fail
      refine (seek_spec b n lo hi K T q _ (HK.out.mem.upd HU.out (by simp)) HK.out.ok.wf HK.out.ti hn h1 h2 hlh).mono ?_
      rintro e w2 ⟨hu2, hr⟩
      have HU2 := Lib.hid (HU.out.trans hu2)
      clear hu2
      rcases hr with ⟨r, rfl, ha⟩ | ⟨rfl, hno⟩
      · have HA := Lib.hid ha
        clear ha
        go_wp2_with fail
        go_ret2
        exact ⟨HU2.out, .inl ⟨r, HF.out, .inr ⟨HLH.out, by simpa using HA.out⟩, rfl⟩⟩
      · have HNO := Lib.hid hno
        clear hno
        go_wp2_with fail
        go_ret2
        exact ⟨HU2.out, .inr ⟨fun _ => ⟨HLH.out, by simpa using HNO.out⟩, rfl⟩⟩
  · have HC := fits_spec b v lo hi K T q w h.mem h.ok.wf h.ok.ord h1 h2
    have HE : Hid (K.fitsE v lo hi ≠ 0) := hf
    generalize hc : K.fitsE v lo hi = c at hf HC HE
    have HC := Lib.hid HC
    have hf2 : (c != 0) = true := by simpa using hf
    clear h hc
    go_enter Try.func72, Try.ntmps72
    go_wp2_with fail
    refine HC.out.mono ?_
    rintro e w1 ⟨rfl, hu⟩
    have HU := Lib.hid hu
    clear hu
    go_wp2_with fail
    go_ret2
    exact ⟨HU.out, .inr ⟨fun h => absurd h HE.out, rfl⟩⟩
end Go.Proofs.Ytnenhecnkidnpaa
