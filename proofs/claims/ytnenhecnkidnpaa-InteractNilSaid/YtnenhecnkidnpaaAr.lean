/- The arena in memory, and the contract of each of its calls. -/
import Derived.Test.YtnenhecnkidnpaaRows
import Derived.Test.YtnenhecnkidnpaaArP
namespace Go.Proofs.Ytnenhecnkidnpaa
open Go.RowKit

/-- The arena A stands at block b; F: all its blocks. -/
structure ArenaAt (w : World) (b : Nat) (A : ArenaV) (F : List Nat) : Prop where
  cells : ∃ l lc fv, w.heap[b]? = some (.cells #[.int .i64 A.places, .slice (some ⟨l, 0, none⟩) A.list.length lc, fv, .int .i64 A.used] 113 (0, 0)) ∧
     w.ownsRow 0 118 5 (.slice (some ⟨l, 0, none⟩) A.list.length lc) A.list.length (flatPlaces A.list) ∧
     w.ownsRow 0 27 1 fv A.free.length (flatRefs A.free) ∧ F = [b, l] ++ fv.ownBlock.toList ∧ b ≠ l ∧ some b ≠ fv.ownBlock ∧ some l ≠ fv.ownBlock
  ok : A.Ok

theorem ArenaAt.lt {w : World} {b : Nat} {A : ArenaV} {F : List Nat} (h : ArenaAt w b A F) : ∀ k, k ∈ F → k < w.heap.size := by
  obtain ⟨l, lc, fv, h1, h2, h3, rfl, _⟩ := h.cells
  intro k hk
  simp at hk
  rcases hk with rfl | rfl | hk
  · exact heap_lt h1
  · exact (h2.lt _ rfl).2
  · exact (h3.lt _ hk).2

theorem ArenaAt.keep {w w' : World} {b : Nat} {A : ArenaV} {F : List Nat} (h : ArenaAt w b A F) (hk : ∀ k, k ∈ F → w'.heap[k]? = w.heap[k]?) : ArenaAt w' b A F := by
  obtain ⟨l, lc, fv, h1, h2, h3, rfl, hr⟩ := h.cells
  refine ⟨⟨l, lc, fv, by rw [hk b (by simp)]; exact h1, row_keep h2 ?_, row_keep h3 ?_, rfl, hr⟩, h.ok⟩
  · rintro k hk'; cases hk'; exact hk _ (by simp)
  · intro k hk'; exact hk _ (by simp [hk'])

theorem ArenaAt.upd {w w' : World} {b : Nat} {A : ArenaV} {F S : List Nat} (h : ArenaAt w b A F) (u : Upd S w w') (hd : ∀ k, k ∈ F → k ∉ S) : ArenaAt w' b A F :=
  h.keep fun k hk => u.block k (h.lt k hk) (hd k hk)

theorem ArenaAt.head {w : World} {b : Nat} {A : ArenaV} {F : List Nat} (h : ArenaAt w b A F) : b ∈ F := by
  obtain ⟨l, lc, fv, h1, h2, h3, rfl, hr⟩ := h.cells
  simp

set_option maxRecDepth 100000 in
set_option maxHeartbeats 400000 in
theorem taken_spec (b : Nat) (F : List Nat) (r : Nat) (A : ArenaV) (w : World) (h : ArenaAt w b A F) (hr32 : r ≤ 4294967295) :
    Calls Try.prog 74 #[.pointer (some ⟨b, 0, none⟩), .int .u32 r] w fun e w' => e = .returned (.bool (A.tk r)) ∧ w = w' := by
  obtain ⟨l, lc, fv, h1, h2, h3, _, _⟩ := h.cells
  have hp := h.ok.pm
  have hl' := h.ok.lp
  have hl : w.cell? ⟨b, 1, none⟩ = some (.slice (some ⟨l, 0, none⟩) A.list.length lc) := cell_at h1 rfl
  clear h1 h3
  by_cases hr : r < A.list.length
  · have hg : A.list[r]? = some A.list[r] := List.getElem?_eq_getElem hr
    have hc : w.cell? ⟨l, r * 5 + 3, none⟩ = some (.bool A.list[r].taken) := row_cell h2 (by rw [flat_get _ _ _ (by omega), hg]; rfl)
    have htk : A.tk r = A.list[r].taken := by simp [ArenaV.tk, hg]
    rw [htk]; clear htk hg h2 h
    go_enter Try.func74, Try.ntmps74
    go_wp2
    go_ret
    exact ⟨rfl, rfl⟩
  · have hg : A.list[r]? = none := List.getElem?_eq_none (by omega)
    have htk : A.tk r = false := by simp [ArenaV.tk, hg]
    rw [htk]; clear htk hg h2 h
    have hd : decide (r < A.list.length) = false := by simpa using hr
    go_enter Try.func74, Try.ntmps74
    go_wp2
    go_ret
    exact ⟨rfl, rfl⟩

set_option maxRecDepth 100000 in
set_option maxHeartbeats 400000 in
theorem check_spec (b : Nat) (F : List Nat) (v : Int) (lo hi : Nat) (A : ArenaV) (w : World) (h : ArenaAt w b A F) (h1 : lo ≤ 4294967295) (h2 : hi ≤ 4294967295) :
    Calls Try.prog 76 #[.pointer (some ⟨b, 0, none⟩), .agg #[.int .i64 v, .int .u32 lo, .int .u32 hi]] w fun e w' => e = .returned (.int .i64 (A.checkE v lo hi)) ∧ Upd [] w w' := by
  have h' := fun o => h.upd ((Upd.refl [] w).alloc o) (by simp)
  by_cases hv : v < 0 ∨ 64 ≤ v
  · have e : A.checkE v lo hi = 2 := by simp [ArenaV.checkE, hv]
    rw [e]; clear e h' h
    by_cases hv0 : v < 0
    · go_enter Try.func76, Try.ntmps76
      go_wp2
      go_ret
      exact ⟨rfl, (Upd.refl _ _).alloc _⟩
    · have hv1 : 64 ≤ v := by omega
      have hv1 : decide (v < 0) = false := by simpa using hv0
      go_enter Try.func76, Try.ntmps76
      go_wp2
      go_ret
      exact ⟨rfl, (Upd.refl _ _).alloc _⟩
  · have hv0 : 0 ≤ v := by omega
    have hv1 : v < 64 := by omega
    have hd : decide (v < 0) = false := by simpa using hv0
    have e : A.checkE v lo hi = if A.tk lo = false ∨ A.tk hi = false then 3 else 0 := by unfold ArenaV.checkE; rw [if_neg hv]
    rw [e]; clear e hv h
    rcases hlo : A.tk lo
    · simp only [true_or, if_true]
      have HL := Lib.hid hlo; clear hlo
      go_enter Try.func76, Try.ntmps76
      go_wp2_with (go_at_call 74; refine (taken_spec b F lo A _ (h' _) (by omega)).mono ?_; rintro e w' ⟨rfl, rfl⟩; rw [HL.out])
      go_ret
      exact ⟨rfl, (Upd.refl _ _).alloc _⟩
    · rcases hhi : A.tk hi
      all_goals
        have HL := Lib.hid hlo; clear hlo
        have HH := Lib.hid hhi; clear hhi
        go_enter Try.func76, Try.ntmps76
        go_wp2_with fail
        refine (taken_spec b F lo A _ (h' _) (by omega)).mono ?_
        rintro e w' ⟨rfl, rfl⟩; rw [HL.out]
        go_wp2_with fail
        refine (taken_spec b F hi A _ (h' _) (by omega)).mono ?_
        rintro e w' ⟨rfl, rfl⟩; rw [HH.out]
        go_wp2_with fail
        go_ret
        exact ⟨by simp, (Upd.refl _ _).alloc _⟩

def ArenaV.ownE (A : ArenaV) (r : Nat) : Int := if 2 ≤ r ∧ A.tk r = true then 0 else 3

set_option maxRecDepth 100000 in
set_option maxHeartbeats 400000 in
theorem own_spec (b : Nat) (F : List Nat) (r : Nat) (A : ArenaV) (w : World) (h : ArenaAt w b A F) (hr32 : r ≤ 4294967295) :
    Calls Try.prog 79 #[.pointer (some ⟨b, 0, none⟩), .int .u32 r] w fun e w' => e = .returned (.int .i64 (A.ownE r)) ∧ w = w' := by
  by_cases h2 : 2 ≤ r
  · have hd : decide (r ≤ 1) = false := by simp; omega
    have hd' : decide ((r : Int) ≤ 1) = false := by simp; omega
    rcases ht : A.tk r
    all_goals
      have e : A.ownE r = if A.tk r = true then 0 else 3 := by simp [ArenaV.ownE, h2]
      rw [e, ht]; clear e
      have HT := Lib.hid ht; clear ht
      simp only [if_true, Bool.false_eq_true, if_false]
      go_enter Try.func79, Try.ntmps79
      go_wp2_with fail
      refine (taken_spec b F r A _ h (by omega)).mono ?_
      rintro e w' ⟨rfl, rfl⟩; rw [HT.out]
      go_wp2_with fail
      go_ret
      exact ⟨rfl, rfl⟩
  · have hd : (r : Int) ≤ 1 := by omega
    have e : A.ownE r = 3 := by simp [ArenaV.ownE, h2]
    rw [e]; clear e
    go_enter Try.func79, Try.ntmps79
    go_wp2
    go_ret
    exact ⟨rfl, rfl⟩

set_option maxRecDepth 100000 in
set_option maxHeartbeats 400000 in
theorem used_spec (b : Nat) (F : List Nat) (A : ArenaV) (w : World) (h : ArenaAt w b A F) :
    Calls Try.prog 38 #[.pointer (some ⟨b, 0, none⟩)] w fun e w' => e = .returned (.int .i64 A.used) ∧ w = w' := by
  obtain ⟨l, lc, fv, h1, h2, h3, _, _⟩ := h.cells
  have hl : w.cell? ⟨b, 3, none⟩ = some (.int .i64 A.used) := cell_at h1 rfl
  clear h1 h2 h3 h
  go_enter Try.func38, Try.ntmps38
  go_wp2
  go_ret
  exact ⟨rfl, rfl⟩

set_option maxRecDepth 100000 in
set_option maxHeartbeats 400000 in
theorem places_spec (b : Nat) (F : List Nat) (A : ArenaV) (w : World) (h : ArenaAt w b A F) :
    Calls Try.prog 68 #[.pointer (some ⟨b, 0, none⟩)] w fun e w' => e = .returned (.int .i64 A.places) ∧ w = w' := by
  obtain ⟨l, lc, fv, h1, h2, h3, _, _⟩ := h.cells
  have hl : w.cell? ⟨b, 0, none⟩ = some (.int .i64 A.places) := cell_at h1 rfl
  clear h1 h2 h3 h
  go_enter Try.func68, Try.ntmps68
  go_wp2
  go_ret
  exact ⟨rfl, rfl⟩

def ArenaV.getV (A : ArenaV) (r : Nat) : Value := match A.list[r]? with
  | some p => if p.taken then .agg #[.int .i64 p.var, .int .u32 p.lo, .int .u32 p.hi] else .agg #[.int .i64 0, .int .u32 0, .int .u32 0]
  | none => .agg #[.int .i64 0, .int .u32 0, .int .u32 0]

set_option maxRecDepth 100000 in
set_option maxHeartbeats 400000 in
theorem get_no (b : Nat) (F : List Nat) (r : Nat) (A : ArenaV) (w : World) (h : ArenaAt w b A F) (hr32 : r ≤ 4294967295) (ht : A.tk r = false) :
    Calls Try.prog 61 #[.pointer (some ⟨b, 0, none⟩), .int .u32 r] w fun e w' => e = .returned (.tuple #[.agg #[.int .i64 0, .int .u32 0, .int .u32 0], .int .i64 3]) ∧ Upd [] w w' := by
  have h' := fun o => h.upd ((Upd.refl [] w).alloc o) (by simp)
  have HT := Lib.hid ht; clear ht
  go_enter Try.func61, Try.ntmps61
  go_wp2_with fail
  refine (taken_spec b F r A _ (h' _) (by omega)).mono ?_
  rintro e w' ⟨rfl, rfl⟩; rw [HT.out]
  go_wp2_with fail
  refine bodyPost_ret (v := .tuple #[.agg #[.int .i64 0, .int .u32 0, .int .u32 0], .int .i64 3]) (by simp [results, Try.results61, go_sem]) rfl ⟨rfl, ?_⟩
  exact (Upd.refl _ _).alloc _

set_option maxRecDepth 100000 in
set_option maxHeartbeats 400000 in
theorem get_yes (b : Nat) (F : List Nat) (r : Nat) (A : ArenaV) (p : PlaceV) (w : World) (h : ArenaAt w b A F) (hr32 : r ≤ 4294967295) (hp : A.list[r]? = some p) (ht : p.taken = true) :
    Calls Try.prog 61 #[.pointer (some ⟨b, 0, none⟩), .int .u32 r] w fun e w' => e = .returned (.tuple #[.agg #[.int .i64 p.var, .int .u32 p.lo, .int .u32 p.hi], .int .i64 0]) ∧ Upd [] w w' := by
  have h' := fun o => h.upd ((Upd.refl [] w).alloc o) (by simp)
  have htk : A.tk r = true := ArenaV.tk_iff.2 ⟨p, hp, ht⟩
  have HT := Lib.hid htk; clear htk ht
  have hlt := (List.getElem?_eq_some_iff.1 hp).1
  obtain ⟨l, lc, fv, h1, h2, h3, _, _⟩ := h.cells
  have hpm := h.ok.pm
  have hlp := h.ok.lp
  have hl : w.cell? ⟨b, 1, none⟩ = some (.slice (some ⟨l, 0, none⟩) A.list.length lc) := cell_at h1 rfl
  have g0 : w.cell? ⟨l, r * 5, none⟩ = some (.int .i64 p.var) := row_cell h2 (j := r * 5 + 0) (by rw [flat_get _ _ _ (by omega), hp]; rfl)
  have g1 : w.cell? ⟨l, r * 5 + 1, none⟩ = some (.int .u32 p.lo) := row_cell h2 (by rw [flat_get _ _ _ (by omega), hp]; rfl)
  have g2 : w.cell? ⟨l, r * 5 + 2, none⟩ = some (.int .u32 p.hi) := row_cell h2 (by rw [flat_get _ _ _ (by omega), hp]; rfl)
  have hb : b < w.heap.size := h.lt _ h.head
  have hll : l < w.heap.size := (h2.lt _ rfl).2
  clear h1 h2 h3 h hp
  go_enter Try.func61, Try.ntmps61
  go_wp2_with fail
  refine (taken_spec b F r A _ (h' _) (by omega)).mono ?_
  rintro e w' ⟨rfl, rfl⟩; rw [HT.out]
  go_wp2_with fail
  refine bodyPost_ret (v := .tuple #[.agg #[.int .i64 p.var, .int .u32 p.lo, .int .u32 p.hi], .int .i64 0]) (by simp [results, Try.results61, go_sem]) rfl ⟨rfl, ?_⟩
  exact (Upd.refl _ _).alloc _

theorem Try.infoPlace : (Try.prog.info? 118).map (fun i => (i.zero, i.size, i.bytes)) = some (some (.agg #[.int .i64 0, .int .u32 0, .int .u32 0, .bool false, .int .u8 0]), 5, 24) := by kernel_rfl
theorem Try.infoRef : (Try.prog.info? 27).map (fun i => (i.zero, i.size, i.bytes)) = some (some (.int .u32 0), 1, 4) := by kernel_rfl
theorem Try.infoInt : (Try.prog.info? 3).map (fun i => (i.zero, i.size, i.bytes)) = some (some (.int .i64 0), 1, 8) := by kernel_rfl
end Go.Proofs.Ytnenhecnkidnpaa
