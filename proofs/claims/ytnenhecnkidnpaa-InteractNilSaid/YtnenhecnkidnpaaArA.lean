/- The contract of the arena's Alloc. -/
import Derived.Test.YtnenhecnkidnpaaAr
namespace Go.Proofs.Ytnenhecnkidnpaa
open Go.RowKit

set_option maxRecDepth 100000 in
set_option maxHeartbeats 400000 in
theorem alloc_err (b : Nat) (F : List Nat) (v : Int) (lo hi : Nat) (A : ArenaV) (w : World) (h : ArenaAt w b A F) (h1 : lo ≤ 4294967295) (h2 : hi ≤ 4294967295) (hc : (A.checkE v lo hi == 0) = false) :
    Calls Try.prog 69 #[.pointer (some ⟨b, 0, none⟩), .agg #[.int .i64 v, .int .u32 lo, .int .u32 hi]] w fun e w' => e = .returned (.tuple #[.int .u32 0, .int .i64 (A.checkE v lo hi)]) ∧ Upd [] w w' := by
  have h' := fun o => h.upd ((Upd.refl [] w).alloc o) (by simp)
  generalize hx : A.checkE v lo hi = x at hc ⊢
  have HX := Lib.hid hx; clear hx
  have hc' : (x != 0) = true := by simpa using hc
  go_enter Try.func69, Try.ntmps69
  go_wp2_with fail
  refine (check_spec b F v lo hi A _ (h' _) h1 h2).mono ?_
  rintro e w1 ⟨rfl, hu1⟩; rw [HX.out]
  go_wp2_with fail
  go_ret2
  exact ⟨rfl, ((Upd.refl _ _).alloc _).trans hu1⟩

theorem alloc_free_end {w w1 : World} {b l lc g fcap lo hi r : Nat} {v : Int} {F fr : List Nat} {A : ArenaV} (hu : Upd F w w1)
    (h5 : w1.heap[b]? = some (.cells #[.int .i64 A.places, .slice (some ⟨l, 0, none⟩) A.list.length lc, .slice (some ⟨g, 0, none⟩) A.free.length fcap, .int .i64 A.used] 113 (0, 0)))
    (h6 : w1.ownsRow 0 118 5 (.slice (some ⟨l, 0, none⟩) A.list.length lc) A.list.length (flatPlaces A.list))
    (h7 : w1.ownsRow 0 27 1 (.slice (some ⟨g, 0, none⟩) A.free.length fcap) A.free.length (flatRefs A.free))
    (hF : F = [b, l, g]) (hbl : b ≠ l) (hbf : ¬ b = g) (hlf : ¬ l = g) (hf : A.free = fr ++ [r]) (hlt : r < A.list.length) (hok : (A.put fr r v lo hi).Ok) :
    ArenaAt (((((((w1.setCell ⟨b, 2, none⟩ (.slice (some ⟨g, 0, none⟩) fr.length fcap)).setCell ⟨l, r * 5, none⟩ (.int .i64 v)).setCell ⟨l, r * 5 + 1, none⟩ (.int .u32 lo)).setCell ⟨l, r * 5 + 2, none⟩ (.int .u32 hi)).setCell ⟨l, r * 5 + 3, none⟩ (.bool true)).setCell ⟨l, r * 5 + 4, none⟩ (.int .u8 0)).setCell ⟨b, 3, none⟩ (.int .i64 (A.used + 1))).drew b (A.put fr r v lo hi) F ∧
    Upd F w (((((((w1.setCell ⟨b, 2, none⟩ (.slice (some ⟨g, 0, none⟩) fr.length fcap)).setCell ⟨l, r * 5, none⟩ (.int .i64 v)).setCell ⟨l, r * 5 + 1, none⟩ (.int .u32 lo)).setCell ⟨l, r * 5 + 2, none⟩ (.int .u32 hi)).setCell ⟨l, r * 5 + 3, none⟩ (.bool true)).setCell ⟨l, r * 5 + 4, none⟩ (.int .u8 0)).setCell ⟨b, 3, none⟩ (.int .i64 (A.used + 1))).drew := by
  refine ⟨⟨⟨l, lc, .slice (some ⟨g, 0, none⟩) fr.length fcap, ?_, ?_, ?_, by simpa [Value.ownBlock] using hF, hbl, by simpa [Value.ownBlock] using hbf, by simpa [Value.ownBlock] using hlf⟩, hok⟩, ?_⟩
  · simp [World.setCell, World.drew, Array.getElem?_modify, h5, Ne.symm hbl, ArenaV.put]
  · rw [show (A.put fr r v lo hi).list.length = A.list.length by simp [ArenaV.put]]
    have hb' : ∀ j : Nat, some (⟨b, j, none⟩ : Addr).block ≠ (Value.slice (some ⟨l, 0, none⟩) A.list.length lc).ownBlock := by intro j; simpa [Value.ownBlock] using hbl
    have r1 := row_place (row_ne h6 (hb' 2) (.slice (some ⟨g, 0, none⟩) fr.length fcap)) hlt ⟨v, lo, hi, true, 0⟩
    have r2 := row_ne r1 (hb' 3) (.int .i64 (A.used + 1))
    exact row_drew r2
  · have h7 := row_take h7 (m := fr.length) (by rw [hf]; simp)
    rw [show (A.put fr r v lo hi).free = fr from rfl, show flatRefs fr = List.take (fr.length * 1) (flatRefs A.free) by simp [hf, flatRefs]]
    refine row_keep h7 ?_
    rintro k hk; cases hk
    simp [World.setCell, World.drew, Array.getElem?_modify, hbf, hlf]
  · refine Upd.drew ?_
    exact (((((((hu.setCell (by simp [hF]) _).setCell (by simp [hF]) _).setCell (by simp [hF]) _).setCell (by simp [hF]) _).setCell (by simp [hF]) _).setCell (by simp [hF]) _).setCell (by simp [hF]) _)

set_option maxRecDepth 100000 in
set_option maxHeartbeats 800000 in
theorem alloc_free (b : Nat) (F : List Nat) (v : Int) (lo hi r : Nat) (fr : List Nat) (A : ArenaV) (w : World) (h : ArenaAt w b A F) (h1 : lo ≤ 4294967295) (h2 : hi ≤ 4294967295)
   (hf : A.free = fr ++ [r]) (hc : A.checkE v lo hi = 0)  :
    Calls Try.prog 69 #[.pointer (some ⟨b, 0, none⟩), .agg #[.int .i64 v, .int .u32 lo, .int .u32 hi]] w fun e w' => e = .returned (.tuple #[.int .u32 r, .int .i64 0]) ∧ ArenaAt w' b (A.put fr r v lo hi) F ∧ Upd F w w' := by
  have h' := fun o => h.upd ((Upd.refl [] w).alloc o) (by simp)
  have HC := Lib.hid hc; clear hc
  have hok := h.ok
  have HOK := Lib.hid (h.ok.put (v := v) hf h1 h2)
  have hb := h.lt b h.head
  have Hf := Lib.hid hf; clear hf
  go_enter Try.func69, Try.ntmps69
  go_wp2_with fail
  refine (check_spec b F v lo hi A _ (h' _) h1 h2).mono ?_
  rintro e w1 ⟨rfl, hu1⟩; rw [HC.out]
  have hA := (h' _).upd hu1 (by simp)
  have hbx : w1.heap[w.heap.size]? = some (.cells #[.int .i64 v, .int .u32 lo, .int .u32 hi] 55 (0, 0)) := (hu1.block w.heap.size (by simp) (by simp)).trans (heap_alloc_new w _)
  have hbs := hu1.size
  have hF := h.lt
  have HU := Lib.hid (((Upd.refl F w).alloc _).then hu1 (by simp))
  simp only [World.size_alloc] at hbs
  clear h h' hu1
  obtain ⟨l, lc, fv, h5, h6, h7, hF', hbl, hbf, hlf⟩ := hA.cells
  have hpm := hok.pm
  have hlp := hok.lp
  have hus := hok.us
  have hfll : A.free.length = fr.length + 1 := by rw [Hf.out]; simp
  have hfr : fr.length ≤ 1048576 := by omega
  have hu : A.used ≤ 1048576 := by omega
  obtain ⟨g, fcap, hfv, _, _⟩ := World.ownsRow.form h7 (by omega)
  subst hfv
  simp [Value.ownBlock] at hbf hlf hF'
  have hfc : fr.length ≤ fcap := by have := (row_block h7).2.1; omega
  obtain ⟨p, hp, _⟩ := (hok.fr r).1 (by rw [Hf.out]; simp)
  have hlt := (List.getElem?_eq_some_iff.1 hp).1
  have hl : l < w.heap.size := hF _ (by simp [hF'])
  have hg : g < w.heap.size := hF _ (by simp [hF'])
  have hnb : ¬ w.heap.size = b := by omega
  have hnl : ¬ w.heap.size = l := by omega
  have hng : ¬ w.heap.size = g := by omega
  have hc1 : w1.cell? ⟨b, 1, none⟩ = some (.slice (some ⟨l, 0, none⟩) A.list.length lc) := cell_at h5 rfl
  have hc2 : w1.cell? ⟨b, 2, none⟩ = some (.slice (some ⟨g, 0, none⟩) (fr.length + 1) fcap) := by rw [← hfll]; exact cell_at h5 rfl
  have hc3 : w1.cell? ⟨b, 3, none⟩ = some (.int .i64 A.used) := cell_at h5 rfl
  have hz2 := frozen_at 2 h5
  have hz3 := frozen_at 3 h5
  have hcr : w1.cell? ⟨g, fr.length, none⟩ = some (.int .u32 r) := row_cell h7 (by simp [Hf.out, flatRefs])
  have g0 : w1.cell? ⟨l, r * 5, none⟩ = some (.int .i64 p.var) := row_cell h6 (j := r * 5 + 0) (by rw [flat_get _ _ _ (by omega), hp]; rfl)
  have g1 : w1.cell? ⟨l, r * 5 + 1, none⟩ = some (.int .u32 p.lo) := row_cell h6 (by rw [flat_get _ _ _ (by omega), hp]; rfl)
  have g2 : w1.cell? ⟨l, r * 5 + 2, none⟩ = some (.int .u32 p.hi) := row_cell h6 (by rw [flat_get _ _ _ (by omega), hp]; rfl)
  have g3 : w1.cell? ⟨l, r * 5 + 3, none⟩ = some (.bool p.taken) := row_cell h6 (by rw [flat_get _ _ _ (by omega), hp]; rfl)
  have g4 : w1.cell? ⟨l, r * 5 + 4, none⟩ = some (.int .u8 p.count) := row_cell h6 (by rw [flat_get _ _ _ (by omega), hp]; rfl)
  have z0 := row_frozen h6 (r * 5)
  have z1 := row_frozen h6 (r * 5 + 1)
  have z2 := row_frozen h6 (r * 5 + 2)
  have z3 := row_frozen h6 (r * 5 + 3)
  have z4 := row_frozen h6 (r * 5 + 4)
  have x0 : w1.cell? ⟨w.heap.size, 0, none⟩ = some (.int .i64 v) := cell_at hbx rfl
  have x1 : w1.cell? ⟨w.heap.size, 1, none⟩ = some (.int .u32 lo) := cell_at hbx rfl
  have x2 : w1.cell? ⟨w.heap.size, 2, none⟩ = some (.int .u32 hi) := cell_at hbx rfl
  have H5 := Lib.hid h5
  have H6 := Lib.hid h6
  have H7 := Lib.hid h7
  have HF := Lib.hid hF'
  have HL := Lib.hid hfll
  have HB := Lib.hid hbx
  clear h5 h6 h7 hF' hfll hp hus hF hA hbx hok
  go_wp2_with fail
  go_region
  go_wp2_with fail
  go_ret2
  exact ⟨rfl, alloc_free_end HU.out H5.out H6.out H7.out HF.out hbl hbf hlf Hf.out hlt HOK.out⟩

set_option maxRecDepth 100000 in
set_option maxHeartbeats 800000 in
theorem alloc_full (b : Nat) (F : List Nat) (v : Int) (lo hi : Nat) (A : ArenaV) (w : World) (h : ArenaAt w b A F) (h1 : lo ≤ 4294967295) (h2 : hi ≤ 4294967295)
   (hf : A.free = []) (hfull : A.places ≤ A.list.length) (hc : A.checkE v lo hi = 0)  :
    Calls Try.prog 69 #[.pointer (some ⟨b, 0, none⟩), .agg #[.int .i64 v, .int .u32 lo, .int .u32 hi]] w fun e w' => e = .returned (.tuple #[.int .u32 0, .int .i64 9]) ∧ Upd [] w w' := by
  have h' := fun o => h.upd ((Upd.refl [] w).alloc o) (by simp)
  have HC := Lib.hid hc; clear hc
  have hok := h.ok
  have hb := h.lt b h.head
  have Hf := Lib.hid hf; clear hf
  go_enter Try.func69, Try.ntmps69
  go_wp2_with fail
  refine (check_spec b F v lo hi A _ (h' _) h1 h2).mono ?_
  rintro e w1 ⟨rfl, hu1⟩; rw [HC.out]
  have hA := (h' _).upd hu1 (by simp)
  have hbx : w1.heap[w.heap.size]? = some (.cells #[.int .i64 v, .int .u32 lo, .int .u32 hi] 55 (0, 0)) := (hu1.block w.heap.size (by simp) (by simp)).trans (heap_alloc_new w _)
  have hbs := hu1.size
  have hF := h.lt
  have HU := Lib.hid (((Upd.refl [] w).alloc _).then hu1 (by simp))
  simp only [World.size_alloc] at hbs
  clear h h' hu1
  obtain ⟨l, lc, fv, h5, h6, h7, hF', hbl, hbf, hlf⟩ := hA.cells
  have hpm := hok.pm
  have hlp := hok.lp
  have hus := hok.us
  have hfll : A.free.length = 0 := by rw [Hf.out]; simp
  have hu : A.used ≤ 1048576 := by omega
  rw [hfll] at h7
  obtain ⟨fa, fc, hfv, _⟩ := row_nil_len h7
  have hl : l < w.heap.size := hF _ (by simp [hF'])
  have hnb : ¬ w.heap.size = b := by omega
  have hnl : ¬ w.heap.size = l := by omega
  have hc0 : w1.cell? ⟨b, 0, none⟩ = some (.int .i64 A.places) := cell_at h5 rfl
  have hc1 : w1.cell? ⟨b, 1, none⟩ = some (.slice (some ⟨l, 0, none⟩) A.list.length lc) := cell_at h5 rfl
  have hc2 : w1.cell? ⟨b, 2, none⟩ = some (.slice fa 0 fc) := by rw [← hfv]; exact cell_at h5 rfl
  clear h5 h6 h7 hF' hfll hus hF hA hbx hok hfv
  go_wp2_with fail
  go_region
  go_wp2_with fail
  go_ret2
  exact ⟨rfl, HU.out.drew⟩

theorem push_keep {w w1 : World} {b l lc lo hi : Nat} {v : Int} {F : List Nat} {fv : Value} {A : ArenaV}
    (h5 : w1.heap[b]? = some (.cells #[.int .i64 A.places, .slice (some ⟨l, 0, none⟩) A.list.length lc, fv, .int .i64 A.used] 113 (0, 0)))
    (hF : F = [b, l] ++ fv.ownBlock.toList) (hbl : b ≠ l) (hlf : some l ≠ fv.ownBlock) (hu : Upd F w w1) :
    ∀ w2, (w1.alloc (.cells #[.int .i64 v, .int .u32 lo, .int .u32 hi, .bool true, .int .u8 0] 118 (0, 0))).drew.drew.grownBy w2 (Value.slice (some ⟨l, 0, none⟩) A.list.length lc).ownBlock →
      w2.cell? ⟨b, 1, none⟩ = some (.slice (some ⟨l, 0, none⟩) A.list.length lc) ∧ w2.frozen? ⟨b, 1, none⟩ = false ∧ w2.cell? ⟨b, 3, none⟩ = some (.int .i64 A.used) ∧ w2.frozen? ⟨b, 3, none⟩ = false ∧
      Hid (Upd F w w2 ∧ w2.heap[b]? = some (.cells #[.int .i64 A.places, .slice (some ⟨l, 0, none⟩) A.list.length lc, fv, .int .i64 A.used] 113 (0, 0)) ∧ ∀ k, fv.ownBlock = some k → k < w1.heap.size → w2.heap[k]? = w1.heap[k]?) := by
  intro w2 hg
  have hb := heap_lt h5
  have hbk : w2.heap[b]? = w1.heap[b]? := by
    rw [hg.block b (by simp; omega) (by simpa [Value.ownBlock] using hbl)]
    exact heap_alloc_old w1 _ hb
  rw [h5] at hbk
  refine ⟨cell_at hbk rfl, frozen_at 1 hbk, cell_at hbk rfl, frozen_at 3 hbk, ((hu.alloc _).drew.drew).grown hg ?_, hbk, ?_⟩
  · intro k hk; left; simp [Value.ownBlock] at hk; subst hk; simp [hF]
  · intro k hk hkl
    rw [hg.block k (by simp; omega) (by rw [← hk]; simpa [Value.ownBlock] using Ne.symm hlf)]
    exact heap_alloc_old w1 _ hkl

theorem push_end {w w1 w2 : World} {b l lc g cap lo hi : Nat} {v : Int} {F : List Nat} {fv : Value} {A : ArenaV} {X : Obj}
    (hown : w2.ownsRow 0 118 5 (.slice (some ⟨g, 0, none⟩) (A.list.length + 1) cap) (A.list.length + 1) (flatPlaces A.list ++ [.int .i64 v, .int .u32 lo, .int .u32 hi, .bool true, .int .u8 0]))
    (hat : (Value.slice (some ⟨l, 0, none⟩) A.list.length lc).ownBlock = some g ∨ g = (w1.alloc X).drew.drew.heap.size)
    (hu : Upd F w w2) (h5 : w2.heap[b]? = some (.cells #[.int .i64 A.places, .slice (some ⟨l, 0, none⟩) A.list.length lc, fv, .int .i64 A.used] 113 (0, 0)))
    (hk : ∀ k, fv.ownBlock = some k → k < w1.heap.size → w2.heap[k]? = w1.heap[k]?)
    (hF : F = [b, l] ++ fv.ownBlock.toList) (h7 : w1.ownsRow 0 27 1 fv 0 (flatRefs A.free))
    (hbl : b ≠ l) (hbf : some b ≠ fv.ownBlock) (hlf : some l ≠ fv.ownBlock) (hs : w.heap.size ≤ w1.heap.size ∧ b < w1.heap.size) (hok : (A.push v lo hi).Ok) :
    ∃ F', ArenaAt ((w2.setCell ⟨b, 1, none⟩ (.slice (some ⟨g, 0, none⟩) (A.list.length + 1) cap)).setCell ⟨b, 3, none⟩ (.int .i64 (A.used + 1))) b (A.push v lo hi) F' ∧
      Upd F w ((w2.setCell ⟨b, 1, none⟩ (.slice (some ⟨g, 0, none⟩) (A.list.length + 1) cap)).setCell ⟨b, 3, none⟩ (.int .i64 (A.used + 1))) ∧ Sub F w F' := by
  have hfl : A.free = [] := by
    have := h7.1
    simpa [flatRefs] using this
  have hbg : b ≠ g := by
    rcases hat with h | h
    · simp [Value.ownBlock] at h; rw [← h]; exact hbl
    · simp at h; omega
  have hgf : some g ≠ fv.ownBlock := by
    rcases hat with h | h
    · simp [Value.ownBlock] at h; rw [← h]; exact hlf
    · intro e
      have := (h7.lt g e.symm).2
      simp at h; omega
  have hlen : (A.push v lo hi).list.length = A.list.length + 1 := by simp [ArenaV.push]
  have hflat : flatPlaces (A.push v lo hi).list = flatPlaces A.list ++ [.int .i64 v, .int .u32 lo, .int .u32 hi, .bool true, .int .u8 0] := by simp [ArenaV.push, flatPlaces, PlaceV.flat]
  refine ⟨[b, g] ++ fv.ownBlock.toList, ⟨⟨g, cap, fv, ?_, ?_, ?_, rfl, hbg, hbf, hgf⟩, hok⟩, ?_, ?_⟩
  · rw [hlen]
    have e1 := heap_set_eq (j := 3) (heap_set_eq (j := 1) h5 (.slice (some ⟨g, 0, none⟩) (A.list.length + 1) cap)) (.int .i64 (A.used + 1))
    rw [e1]
    simp [ArenaV.push]
  · rw [hlen, hflat]
    have hb' : ∀ j : Nat, some (⟨b, j, none⟩ : Addr).block ≠ (Value.slice (some ⟨g, 0, none⟩) (A.list.length + 1) cap).ownBlock := by intro j; simpa [Value.ownBlock] using hbg
    exact row_ne (row_ne hown (hb' 1) _) (hb' 3) _
  · rw [show (A.push v lo hi).free.length = 0 by simp [ArenaV.push, hfl], show (A.push v lo hi).free = A.free from rfl]
    have r0 : w2.ownsRow 0 27 1 fv 0 (flatRefs A.free) := row_keep h7 fun k e => hk k e (h7.lt k e).2
    exact row_ne (row_ne r0 hbf _) hbf _
  · exact (hu.setCell (by simp [hF]) _).setCell (by simp [hF]) _
  · intro k hk'
    simp only [List.mem_append, List.mem_cons, List.not_mem_nil, or_false] at hk'
    rcases hk' with (rfl | rfl) | hk'
    · simp [hF]
    · rcases hat with h | h
      · simp [Value.ownBlock] at h; subst h; simp [hF]
      · right; simp at h; omega
    · left; rw [hF]; simp at hk' ⊢; exact .inr (.inr hk')

set_option maxRecDepth 100000 in
set_option maxHeartbeats 800000 in
theorem alloc_push (b : Nat) (F : List Nat) (v : Int) (lo hi : Nat) (A : ArenaV) (w : World) (h : ArenaAt w b A F) (h1 : lo ≤ 4294967295) (h2 : hi ≤ 4294967295)
   (hf : A.free = []) (hroom : A.list.length < A.places) (hc : A.checkE v lo hi = 0)  :
    Calls Try.prog 69 #[.pointer (some ⟨b, 0, none⟩), .agg #[.int .i64 v, .int .u32 lo, .int .u32 hi]] w fun e w' => e = .returned (.tuple #[.int .u32 A.list.length, .int .i64 0]) ∧ ∃ F', ArenaAt w' b (A.push v lo hi) F' ∧ Upd F w w' ∧ Sub F w F' := by
  have h' := fun o => h.upd ((Upd.refl [] w).alloc o) (by simp)
  have HC := Lib.hid hc; clear hc
  have hok := h.ok
  have HOK := Lib.hid (h.ok.push (v := v) hroom h1 h2)
  have hb := h.lt b h.head
  have Hf := Lib.hid hf; clear hf
  go_enter Try.func69, Try.ntmps69
  go_wp2_with fail
  refine (check_spec b F v lo hi A _ (h' _) h1 h2).mono ?_
  rintro e w1 ⟨rfl, hu1⟩; rw [HC.out]
  have hA := (h' _).upd hu1 (by simp)
  have hbx : w1.heap[w.heap.size]? = some (.cells #[.int .i64 v, .int .u32 lo, .int .u32 hi] 55 (0, 0)) := (hu1.block w.heap.size (by simp) (by simp)).trans (heap_alloc_new w _)
  have hbs := hu1.size
  have hF := h.lt
  have HU := Lib.hid (((Upd.refl F w).alloc _).then hu1 (by simp))
  simp only [World.size_alloc] at hbs
  clear h h' hu1
  obtain ⟨l, lc, fv, h5, h6, h7, hF', hbl, hbf, hlf⟩ := hA.cells
  have hpm := hok.pm
  have hlp := hok.lp
  have hus := hok.us
  have hfll : A.free.length = 0 := by rw [Hf.out]; simp
  have hu : A.used ≤ 1048576 := by omega
  rw [hfll] at h7
  obtain ⟨fa, fc, hfv, _⟩ := row_nil_len h7
  have hl : l < w.heap.size := hF _ (by simp [hF'])
  have hnb : ¬ w.heap.size = b := by omega
  have hnl : ¬ w.heap.size = l := by omega
  have hc0 : w1.cell? ⟨b, 0, none⟩ = some (.int .i64 A.places) := cell_at h5 rfl
  have hc1 : w1.cell? ⟨b, 1, none⟩ = some (.slice (some ⟨l, 0, none⟩) A.list.length lc) := cell_at h5 rfl
  have hc2 : w1.cell? ⟨b, 2, none⟩ = some (.slice fa 0 fc) := by rw [← hfv]; exact cell_at h5 rfl
  have hd1 : decide (A.places ≤ A.list.length) = false := by simpa using hroom
  have hc3 : w1.cell? ⟨b, 3, none⟩ = some (.int .i64 A.used) := cell_at h5 rfl
  have hz1 := frozen_at 1 h5
  have hz3 := frozen_at 3 h5
  have hbw : b < w1.heap.size := heap_lt h5
  have x0 : w1.cell? ⟨w.heap.size, 0, none⟩ = some (.int .i64 v) := cell_at hbx rfl
  have x1 : w1.cell? ⟨w.heap.size, 1, none⟩ = some (.int .u32 lo) := cell_at hbx rfl
  have x2 : w1.cell? ⟨w.heap.size, 2, none⟩ = some (.int .u32 hi) := cell_at hbx rfl
  have H5 := Lib.hid h5
  have H6 := Lib.hid h6
  have H7 := Lib.hid h7
  have HF := Lib.hid hF'
  clear h5 h6 h7 hF' hfll hus hF hA hbx hok hfv
  obtain ⟨i, hi0, hz0, hz1', hz2⟩ := info_parts Try.infoPlace
  have HI := Lib.hid hi0
  have HZ := Lib.hid hz0
  have HZ1 := Lib.hid hz1'
  have HZ2 := Lib.hid hz2
  clear hi0 hz0 hz1' hz2
  go_wp2_with fail
  go_region
  go_wp2_with fail
  have HN : ∀ j u, [Value.int .i64 v, .int .u32 lo, .int .u32 hi, .bool true, .int .u8 0][j]? = some u → ((w1.alloc (.cells #[.int .i64 v, .int .u32 lo, .int .u32 hi, .bool true, .int .u8 0] 118 (0, 0))).drew.drew).cell? ((⟨w1.heap.size, 0, none⟩ : Addr).add j) = some u :=
    World.news_of_block (cs := #[.int .i64 v, .int .u32 lo, .int .u32 hi, .bool true, .int .u8 0]) (heap_alloc_new w1 _)
  have HC2 : ∀ u, u ∈ [Value.int .i64 v, .int .u32 lo, .int .u32 hi, .bool true, .int .u8 0] → u.oneCell' = true := by simp [Value.oneCell']
  have HN' := Lib.hid HN
  have HC2' := Lib.hid HC2
  clear HN HC2
  have HK := Lib.hid (push_keep (v := v) (lo := lo) (hi := hi) H5.out HF.out hbl hlf HU.out)
  go_region_law (refine step_append_lies _ rfl (.tmp 72) (.tmp 75) 111 rfl 0 118 i _ 5 24 Try.underlying111 HI.out HZ.out HZ1.out HZ2.out (by rfl) (by decide) _ _ _ rfl (row_drew (row_drew (H6.out.alloc _))) ⟨w1.heap.size, 0, none⟩ 1 1 [.int .i64 v, .int .u32 lo, .int .u32 hi, .bool true, .int .u8 0] rfl rfl HN'.out HC2'.out (by omega) (by unfold maxLen; omega) (by omega) (by omega) _ rfl ?_; intro g cap w2 hown hgr hat hlt2; obtain ⟨k1, k2, k3, k4, k5⟩ := HK.out w2 hgr; have HX := Lib.hid (And.intro hown (And.intro hgr hat)); clear hown hgr hat)
  all_goals
    go_wp2_with fail
    go_ret2
    refine ⟨rfl, ?_⟩
    obtain ⟨y1, y2, y3⟩ := HX.out
    obtain ⟨z1, z2, z3⟩ := k5.out
    exact push_end y1 y3 z1 z2 z3 HF.out H7.out hbl hbf hlf (by omega) HOK.out
end Go.Proofs.Ytnenhecnkidnpaa
