/- The kernel's Roots. -/
import Derived.Test.YtnenhecnkidnpaaAW
namespace Go.Proofs.Ytnenhecnkidnpaa
open Go.RowKit Go.Maps Go.ChangeMaps Go.WideShapes

/-- what is held, of the first i Refs -/
def KV.rootsI (K : KV) (i : Nat) : List Nat := (List.range i).filter fun r => decide (0 < K.hold r)
def KV.roots (K : KV) : List Nat := K.rootsI K.holds.length

theorem KV.rootsI_succ (K : KV) (i : Nat) : K.rootsI (i + 1) = if 0 < K.hold i then K.rootsI i ++ [i] else K.rootsI i := by
  unfold KV.rootsI
  rw [List.range_succ, List.filter_append]
  by_cases h : 0 < K.hold i
  · simp [h]
  · simp [h]

theorem KV.rootsI_len (K : KV) (i : Nat) : (K.rootsI i).length ≤ i := by
  have := List.length_filter_le (fun r => decide (0 < K.hold r)) (List.range i)
  simpa [KV.rootsI] using this

theorem KV.mem_roots {K : KV} {r : Nat} : r ∈ K.roots ↔ 0 < K.hold r := by
  simp only [KV.roots, KV.rootsI, List.mem_filter, List.mem_range, decide_eq_true_eq]
  refine ⟨fun h => h.2, fun h => ⟨?_, h⟩⟩
  by_cases hl : r < K.holds.length
  · exact hl
  · have : K.hold r = 0 := by
      unfold KV.hold
      rw [List.getD_eq_getElem?_getD, List.getElem?_eq_none (by omega)]; rfl
    omega

theorem KV.roots_nodup (K : KV) : K.roots.Nodup := List.Pairwise.filter _ List.nodup_range

set_option maxRecDepth 100000 in
set_option maxHeartbeats 1600000 in
theorem roots_spec (b : Nat) (K : KV) (T : List DM) (q : KPtr) (w : World) (h : KerIn w b K T q) :
    Calls Try.prog 25 #[.pointer (some ⟨b, 0, none⟩)] w fun e w' => ∃ v : Value, e = .returned v ∧ w'.ownsRow w.heap.size 27 1 v K.roots.length (flatRefs K.roots) ∧ Upd [] w w' := by
  have hsz : K.holds.length ≤ 1048576 := by
    have h1 := h.ok.wf.len
    have h2 := h.ok.wf.ul
    have h3 := h.ok.wf.ok.lp
    have h4 := h.ok.wf.ok.pm
    omega
  obtain ⟨fa, fc, hhv, _⟩ := row_nil_len h.mem.hs
  have c3 : w.cell? ⟨b, 3, none⟩ = some (.slice fa K.holds.length fc) := by rw [← hhv]; exact cell_at h.mem.blk rfl
  have hrow := h.mem.hs
  rw [hhv] at hrow
  have HROW := Lib.hid hrow
  obtain ⟨ti, hi0, hz0, hz1', hz2⟩ := info_parts Try.infoRefA
  have HI := Lib.hid hi0
  have HZ := Lib.hid hz0
  have HZ1 := Lib.hid hz1'
  have HZ2 := Lib.hid hz2
  have HHM := Lib.hid h.ok.wf.hm
  clear h hhv hrow hi0 hz0 hz1' hz2
  go_enter Try.func25, Try.ntmps25
  go_wp2_with fail
  go_loopg [3, 14] K.holds.length (fun g s3 s14 wr => ∃ i : Nat, K.holds.length - i = g ∧ i ≤ K.holds.length ∧ s14 = .int .i64 i ∧ wr.ownsRow w.heap.size 27 1 s3 (K.rootsI i).length (flatRefs (K.rootsI i)) ∧ Upd [] w wr)
  case atStart => exact ⟨0, by omega, by omega, rfl, World.ownsRow_nil _ _ _ _, Upd.refl _ _⟩
  case round =>
    obtain ⟨i, rfl, hi, rfl, ho, hU⟩ := hrel
    by_cases hlt : i < K.holds.length
    · obtain ⟨g, rfl⟩ := row_some HROW.out (by omega)
      have hr := row_keep HROW.out fun k hk => hU.block k (HROW.out.lt k hk).2 (by simp)
      have ch : wr.cell? ⟨g, i, none⟩ = some (.int .i32 (K.hold i)) := row_cell hr (by simp [flat32, KV.hold, hlt])
      have hil : (i : Int) < (K.holds.length : Int) := by omega
      have HU := Lib.hid hU
      have hw32 : i ≤ 4294967295 := by omega
      by_cases h0 : 0 < K.hold i
      · have HS : Hid (K.rootsI (i + 1) = K.rootsI i ++ [i]) := by
          show K.rootsI (i + 1) = _
          rw [K.rootsI_succ, if_pos h0]
        have hln := K.rootsI_len i
        obtain ⟨va, vc, hv, _⟩ := row_nil_len ho
        subst hv
        have HO := Lib.hid ho
        have hd : (0 : Int) < (K.hold i : Int) := by omega
        have HC2 : Hid (∀ u, u ∈ [Value.int .u32 i] → u.oneCell' = true) := by intro u hu; simp at hu; subst hu; rfl
        have hsz2 := hU.size
        have hmod : (i : Int) % 4294967296 = i := by omega
        have hbs : w.heap.size ≤ (wr.alloc (.cells #[.int .u32 i] 27 (0, 0))).heap.size := by rw [World.size_alloc]; omega
        clear ho hU hr
        go_wp2_with (at_builtin; go_must (refine wpList_append_lies _ rfl (.tmp 21) (.tmp 24) 31 rfl w.heap.size 27 ti _ 1 4 Try.underlying31 HI.out HZ.out HZ1.out HZ2.out (by rfl) (by decide) _ (K.rootsI i).length (flatRefs (K.rootsI i)) rfl (HO.out.alloc _) ⟨wr.heap.size, 0, none⟩ 1 1 [.int .u32 i] rfl rfl ?c1 HC2.out (by omega) (by unfold maxLen; omega) (by omega) hbs _ rfl ?_))
        case c1 => exact World.news_of_block (heap_alloc_new wr (.cells #[.int .u32 i] 27 (0, 0)))
        intro g5 cap w5 hown hgr hat hlt5
        have HE : Hid (w5.ownsRow w.heap.size 27 1 (.slice (some ⟨g5, 0, none⟩) ((K.rootsI i).length + 1) cap) (K.rootsI (i + 1)).length (flatRefs (K.rootsI (i + 1))) ∧ Upd [] w w5) := by
          rw [HS.out]
          refine ⟨by simpa [flatRefs] using hown, (HU.out.alloc _).grown hgr fun k hk => .inr ?_⟩
          exact (HO.out.lt k hk).1
        clear hown hgr hat hlt5
        go_wp2_with fail
        go_roundg (K.holds.length - (i + 1))
        case measure => omega
        case rel => exact ⟨i + 1, rfl, by omega, by simp, HE.out.1, HE.out.2⟩
      · have HS : Hid (K.rootsI (i + 1) = K.rootsI i) := by
          show K.rootsI (i + 1) = _
          rw [K.rootsI_succ, if_neg h0]
        have hd : ¬ ((0 : Int) < (K.hold i : Int)) := by omega
        have hd2 : decide ((0 : Int) < (K.hold i : Int)) = false := by simp; omega
        have HO := Lib.hid ho
        clear ho hU hr
        go_wp2_with fail
        go_roundg (K.holds.length - (i + 1))
        case measure => omega
        case rel => exact ⟨i + 1, rfl, by omega, by simp, by rw [HS.out]; exact HO.out, HU.out⟩
    · obtain rfl : i = K.holds.length := by omega
      have hil : ¬ ((K.holds.length : Int) < (K.holds.length : Int)) := by omega
      have HE := Lib.hid (And.intro ho hU)
      clear ho hU
      go_wp2_with fail
      go_ret
      exact ⟨_, rfl, HE.out⟩
end Go.Proofs.Ytnenhecnkidnpaa
