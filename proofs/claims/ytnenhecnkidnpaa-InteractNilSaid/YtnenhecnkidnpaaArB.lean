/- The contracts of the arena's Free and Set. -/
import Derived.Test.YtnenhecnkidnpaaAr
namespace Go.Proofs.Ytnenhecnkidnpaa
open Go.RowKit


set_option maxRecDepth 100000 in
set_option maxHeartbeats 400000 in
theorem free_err (b : Nat) (F : List Nat) (r : Nat) (A : ArenaV) (w : World) (h : ArenaAt w b A F) (hr32 : r ≤ 4294967295) (ho : A.ownE r = 3) :
    Calls Try.prog 78 #[.pointer (some ⟨b, 0, none⟩), .int .u32 r] w fun e w' => e = .returned (.int .i64 3) ∧ w = w' := by
  have HO := Lib.hid ho; clear ho
  go_enter Try.func78, Try.ntmps78
  go_wp2_with fail
  refine (own_spec b F r A _ h hr32).mono ?_
  rintro e w' ⟨rfl, rfl⟩; rw [HO.out]
  go_wp2_with fail
  go_ret
  exact ⟨rfl, rfl⟩

theorem ArenaV.ownE_ok {A : ArenaV} {r : Nat} (h2 : 2 ≤ r) (ht : A.tk r = true) : A.ownE r = 0 := by simp [ArenaV.ownE, h2, ht]

/-- Where place r stands, its five cells, and that they may be written. -/
theorem place_cells {w : World} {e : TypeId} {l n' c n r : Nat} {L : List PlaceV} {p : PlaceV} (h6 : w.ownsRow 0 e 5 (.slice (some ⟨l, 0, none⟩) n' c) n (flatPlaces L)) (hp : L[r]? = some p) :
    w.cell? ⟨l, r * 5, none⟩ = some (.int .i64 p.var) ∧ w.cell? ⟨l, r * 5 + 1, none⟩ = some (.int .u32 p.lo) ∧ w.cell? ⟨l, r * 5 + 2, none⟩ = some (.int .u32 p.hi) ∧
    w.cell? ⟨l, r * 5 + 3, none⟩ = some (.bool p.taken) ∧ w.cell? ⟨l, r * 5 + 4, none⟩ = some (.int .u8 p.count) ∧
    w.frozen? ⟨l, r * 5, none⟩ = false ∧ w.frozen? ⟨l, r * 5 + 1, none⟩ = false ∧ w.frozen? ⟨l, r * 5 + 2, none⟩ = false ∧ w.frozen? ⟨l, r * 5 + 3, none⟩ = false ∧ w.frozen? ⟨l, r * 5 + 4, none⟩ = false :=
  ⟨row_cell h6 (j := r * 5 + 0) (by rw [flat_get _ _ _ (by omega), hp]; rfl), row_cell h6 (by rw [flat_get _ _ _ (by omega), hp]; rfl), row_cell h6 (by rw [flat_get _ _ _ (by omega), hp]; rfl),
   row_cell h6 (by rw [flat_get _ _ _ (by omega), hp]; rfl), row_cell h6 (by rw [flat_get _ _ _ (by omega), hp]; rfl), row_frozen h6 _, row_frozen h6 _, row_frozen h6 _, row_frozen h6 _, row_frozen h6 _⟩

theorem free_keep {w : World} {b l lc r : Nat} {F : List Nat} {fv : Value} {A : ArenaV}
    (h5 : w.heap[b]? = some (.cells #[.int .i64 A.places, .slice (some ⟨l, 0, none⟩) A.list.length lc, fv, .int .i64 A.used] 113 (0, 0)))
    (h6 : w.ownsRow 0 118 5 (.slice (some ⟨l, 0, none⟩) A.list.length lc) A.list.length (flatPlaces A.list)) (hlt : r < A.list.length)
    (hF : F = [b, l] ++ fv.ownBlock.toList) (hbl : b ≠ l) (hbf : some b ≠ fv.ownBlock) (hlf : some l ≠ fv.ownBlock) :
    ∀ w2, ((set5 w l r PlaceV.zero).alloc (.cells #[.int .u32 r] 27 (0, 0))).grownBy w2 fv.ownBlock →
      w2.frozen? ⟨b, 2, none⟩ = false ∧ w2.cell? ⟨b, 2, none⟩ = some fv ∧ w2.cell? ⟨b, 3, none⟩ = some (.int .i64 A.used) ∧ w2.frozen? ⟨b, 3, none⟩ = false ∧
      Hid (Upd F w w2 ∧ w2.heap[b]? = some (.cells #[.int .i64 A.places, .slice (some ⟨l, 0, none⟩) A.list.length lc, fv, .int .i64 A.used] 113 (0, 0)) ∧
        w2.ownsRow 0 118 5 (.slice (some ⟨l, 0, none⟩) A.list.length lc) A.list.length (flatPlaces (A.list.set r PlaceV.zero))) := by
  intro w2 hg
  have hb := heap_lt h5
  have hl := (h6.lt _ rfl).2
  have hbk : w2.heap[b]? = w.heap[b]? := by
    rw [hg.block b (by rw [World.size_alloc, set5_size]; omega) hbf, heap_alloc_old _ _ (by rw [set5_size]; exact hb)]
    exact set5_ne hbl
  rw [h5] at hbk
  have hu : Upd F w (set5 w l r PlaceV.zero) := (Upd.refl F w).set5 (by simp [hF]) _ _
  refine ⟨frozen_at 2 hbk, cell_at hbk rfl, cell_at hbk rfl, frozen_at 3 hbk, (hu.alloc _).grown hg ?_, hbk, ?_⟩
  · intro k hk; left; simp [hF, hk]
  · exact ((row_place h6 hlt PlaceV.zero).alloc _).kept hg (.inr (by simpa [Value.ownBlock] using hlf))

theorem free_end {w w2 : World} {b l lc g cap r : Nat} {F : List Nat} {fv : Value} {A : ArenaV} {X : Obj}
    (hown : w2.ownsRow 0 27 1 (.slice (some ⟨g, 0, none⟩) (A.free.length + 1) cap) (A.free.length + 1) (flatRefs A.free ++ [.int .u32 r]))
    (hat : fv.ownBlock = some g ∨ g = ((set5 w l r PlaceV.zero).alloc X).heap.size)
    (hu : Upd F w w2) (h5 : w2.heap[b]? = some (.cells #[.int .i64 A.places, .slice (some ⟨l, 0, none⟩) A.list.length lc, fv, .int .i64 A.used] 113 (0, 0)))
    (h6 : w2.ownsRow 0 118 5 (.slice (some ⟨l, 0, none⟩) A.list.length lc) A.list.length (flatPlaces (A.list.set r PlaceV.zero)))
    (hF : F = [b, l] ++ fv.ownBlock.toList) (hbl : b ≠ l) (hbf : some b ≠ fv.ownBlock) (hlf : some l ≠ fv.ownBlock) (hs : b < w.heap.size) (hs' : l < w.heap.size) (h1 : 1 ≤ A.used) (hok : (A.drop r).Ok) :
    ∃ F', ArenaAt ((w2.setCell ⟨b, 2, none⟩ (.slice (some ⟨g, 0, none⟩) (A.free.length + 1) cap)).setCell ⟨b, 3, none⟩ (.int .i64 (A.used - 1))) b (A.drop r) F' ∧
      Upd F w ((w2.setCell ⟨b, 2, none⟩ (.slice (some ⟨g, 0, none⟩) (A.free.length + 1) cap)).setCell ⟨b, 3, none⟩ (.int .i64 (A.used - 1))) ∧ Sub F w F' := by
  rw [World.size_alloc, set5_size] at hat
  have hbg : b ≠ g := by
    rcases hat with h | h
    · rintro rfl; exact hbf h.symm
    · omega
  have hlg : l ≠ g := by
    rcases hat with h | h
    · rintro rfl; exact hlf h.symm
    · omega
  have hflat : flatRefs (A.drop r).free = flatRefs A.free ++ [.int .u32 r] := by simp [ArenaV.drop, flatRefs]
  have hlen : (A.drop r).free.length = A.free.length + 1 := by simp [ArenaV.drop]
  refine ⟨[b, l, g], ⟨⟨l, lc, .slice (some ⟨g, 0, none⟩) (A.free.length + 1) cap, ?_, ?_, ?_, by simp [Value.ownBlock], hbl, by simpa [Value.ownBlock] using hbg, by simpa [Value.ownBlock] using hlg⟩, hok⟩, ?_, ?_⟩
  · have e1 := heap_set_eq (j := 3) (heap_set_eq (j := 2) h5 (.slice (some ⟨g, 0, none⟩) (A.free.length + 1) cap)) (.int .i64 (A.used - 1))
    rw [e1]
    simp [ArenaV.drop]
    omega
  · rw [show (A.drop r).list.length = A.list.length by simp [ArenaV.drop]]
    have hb' : ∀ j : Nat, some (⟨b, j, none⟩ : Addr).block ≠ (Value.slice (some ⟨l, 0, none⟩) A.list.length lc).ownBlock := by intro j; simpa [Value.ownBlock] using hbl
    exact row_ne (row_ne h6 (hb' 2) _) (hb' 3) _
  · rw [hlen, hflat]
    have hb' : ∀ j : Nat, some (⟨b, j, none⟩ : Addr).block ≠ (Value.slice (some ⟨g, 0, none⟩) (A.free.length + 1) cap).ownBlock := by intro j; simpa [Value.ownBlock] using hbg
    exact row_ne (row_ne hown (hb' 2) _) (hb' 3) _
  · exact (hu.setCell (by simp [hF]) _).setCell (by simp [hF]) _
  · intro k hk
    simp at hk
    rcases hk with rfl | rfl | rfl
    · simp [hF]
    · simp [hF]
    · rcases hat with h | h
      · left; simp [hF, h]
      · right; omega

set_option maxRecDepth 100000 in
set_option maxHeartbeats 800000 in
theorem free_ok (b : Nat) (F : List Nat) (r : Nat) (A : ArenaV) (w : World) (h : ArenaAt w b A F) (hr32 : r ≤ 4294967295) (h2 : 2 ≤ r) (ht : A.tk r = true) :
    Calls Try.prog 78 #[.pointer (some ⟨b, 0, none⟩), .int .u32 r] w fun e w' => e = .returned (.int .i64 0) ∧ ∃ F', ArenaAt w' b (A.drop r) F' ∧ Upd F w w' ∧ Sub F w F' := by
  have HO := Lib.hid (ArenaV.ownE_ok h2 ht)
  have HOK := Lib.hid (h.ok.drop ht h2)
  have hok := h.ok
  obtain ⟨p, hp, _⟩ := ArenaV.tk_iff.1 ht
  have hlt := (List.getElem?_eq_some_iff.1 hp).1
  clear ht
  obtain ⟨l, lc, fv, h5, h6, h7, hF', hbl, hbf, hlf⟩ := h.cells
  have hpm := hok.pm
  have hlp := hok.lp
  have hus := hok.us
  have hfl : A.free.length ≤ 1048576 := by omega
  have hu : A.used ≤ 1048576 := by omega
  have hu1 : 1 ≤ A.used := by have := HOK.out.us; have := HOK.out.l2; simp [ArenaV.drop] at *; omega
  obtain ⟨fa, fc, hfv, _⟩ := row_nil_len h7
  subst hfv
  have hb := heap_lt h5
  have hl := (h6.lt _ rfl).2
  have hc1 : w.cell? ⟨b, 1, none⟩ = some (.slice (some ⟨l, 0, none⟩) A.list.length lc) := cell_at h5 rfl
  have hc2 : w.cell? ⟨b, 2, none⟩ = some (.slice fa A.free.length fc) := cell_at h5 rfl
  obtain ⟨g0, g1, g2, g3, g4, z0, z1, z2, z3, z4⟩ := place_cells h6 hp
  have H5 := Lib.hid h5
  have H6 := Lib.hid h6
  have H7 := Lib.hid h7
  have HF := Lib.hid hF'
  have HW := Lib.hid (row_ne (row_ne (row_ne (row_ne (row_ne h7 (a := ⟨l, r * 5, none⟩) hlf (.int .i64 0)) (a := ⟨l, r * 5 + 1, none⟩) hlf (.int .u32 0)) (a := ⟨l, r * 5 + 2, none⟩) hlf (.int .u32 0)) (a := ⟨l, r * 5 + 3, none⟩) hlf (.bool false)) (a := ⟨l, r * 5 + 4, none⟩) hlf (.int .u8 0))
  clear h5 h6 h7 hF' hus hok hp
  obtain ⟨i, hi0, hz0, hz1', hz2⟩ := info_parts Try.infoRef
  have HI := Lib.hid hi0
  have HZ := Lib.hid hz0
  have HZ1 := Lib.hid hz1'
  have HZ2 := Lib.hid hz2
  clear hi0 hz0 hz1' hz2
  go_enter Try.func78, Try.ntmps78
  go_wp2_with fail
  refine (own_spec b F r A _ h hr32).mono ?_
  rintro e w' ⟨rfl, rfl⟩; rw [HO.out]
  have HC2' : Hid (∀ u, u ∈ [Value.int .u32 r] → u.oneCell' = true) := by intro u hu; simp at hu; subst hu; rfl
  have HK := Lib.hid (free_keep H5.out H6.out hlt HF.out hbl hbf hlf)
  go_wp2_with (at_builtin; go_must (refine wpList_append_lies _ rfl (.tmp 25) (.tmp 27) 31 rfl 0 27 i _ 1 4 Try.underlying31 HI.out HZ.out HZ1.out HZ2.out (by rfl) (by decide) _ A.free.length (flatRefs A.free) rfl (HW.out.alloc _) ⟨w.heap.size, 0, none⟩ 1 1 [.int .u32 r] rfl rfl ?c1 HC2'.out (by omega) (by unfold maxLen; omega) (by omega) (by omega) _ rfl ?_))
  case c1 =>
    have := World.news_of_block (heap_alloc_new (set5 w l r PlaceV.zero) (.cells #[.int .u32 r] 27 (0, 0)))
    rw [set5_size] at this
    exact this
  intro g cap w2 hown hgr hat hlt2
  obtain ⟨k1, k2, k3, k4, k5⟩ := HK.out w2 hgr
  have HX := Lib.hid (And.intro hown hat)
  clear hown hgr hat
  go_wp2_with fail
  go_ret
  refine ⟨rfl, ?_⟩
  obtain ⟨y1, y2⟩ := HX.out
  obtain ⟨z1, z2, z3⟩ := k5.out
  exact free_end y1 (X := .cells #[.int .u32 r] 27 (0, 0)) (by rw [World.size_alloc, set5_size]; exact y2) z1 z2 z3 HF.out hbl hbf hlf hb hl (by omega) HOK.out
end Go.Proofs.Ytnenhecnkidnpaa
