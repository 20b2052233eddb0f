/- The contract of arena.New. -/
import Derived.Test.YtnenhecnkidnpaaAr
namespace Go.Proofs.Ytnenhecnkidnpaa
open Go.RowKit

def newPlace (k : Nat) : PlaceV := ⟨-1, k, k, true, 255⟩

def newFlat (k : Nat) : List Value := flatPlaces ((List.range k).map newPlace)
theorem newFlat_succ (k : Nat) : newFlat (k + 1) = newFlat k ++ [.int .i64 (-1), .int .u32 k, .int .u32 k, .bool true, .int .u8 255] := by
  simp [newFlat, List.range_succ, flatPlaces, PlaceV.flat, newPlace]

def NewRel (w : World) (n : Nat) (i : Value) (wr : World) : Prop := ∃ k v, k ≤ 2 ∧ i = .int .u32 (k : Nat) ∧
  wr.heap[w.heap.size]? = some (.cells #[.int .i64 n, v, .slice none 0 0, .int .i64 2] 113 (0, 0)) ∧
  wr.ownsRow (w.heap.size + 1) 118 5 v k (newFlat k) ∧ Upd [] w wr

theorem new_start (w : World) (n : Nat) : NewRel w n (.int .u32 0) (w.alloc (.cells #[.int .i64 n, .slice none 0 0, .slice none 0 0, .int .i64 2] 113 (0, 0))) :=
  ⟨0, .slice none 0 0, by omega, rfl, heap_alloc_new w _, World.ownsRow_nil _ _ _ _, (Upd.refl _ _).alloc _⟩

theorem new_keep {w wr : World} {n k : Nat} {v : Value} {X : Obj} (h5 : wr.heap[w.heap.size]? = some (.cells #[.int .i64 n, v, .slice none 0 0, .int .i64 2] 113 (0, 0)))
    (h6 : wr.ownsRow (w.heap.size + 1) 118 5 v k (newFlat k)) (hu : Upd [] w wr) : ∀ w2, (wr.alloc X).grownBy w2 v.ownBlock →
    w2.cell? ⟨w.heap.size, 1, none⟩ = some v ∧ w2.frozen? ⟨w.heap.size, 1, none⟩ = false ∧ Hid (Upd [] w w2 ∧ w2.heap[w.heap.size]? = some (.cells #[.int .i64 n, v, .slice none 0 0, .int .i64 2] 113 (0, 0))) := by
  intro w2 hg
  have hb := heap_lt h5
  have hbk : w2.heap[w.heap.size]? = wr.heap[w.heap.size]? := by
    rw [hg.block _ (by simp; omega) (fun e => by have := (h6.lt _ e.symm).1; omega)]
    exact heap_alloc_old wr _ hb
  rw [h5] at hbk
  exact ⟨cell_at hbk rfl, frozen_at 1 hbk, (hu.alloc _).grown hg (fun k hk => .inr (by have := (h6.lt _ hk).1; omega)), hbk⟩

theorem new_step {w w2 : World} {n k g cap : Nat} {v : Value} (hk : k < 2) (hown : w2.ownsRow (w.heap.size + 1) 118 5 (.slice (some ⟨g, 0, none⟩) (k + 1) cap) (k + 1) (newFlat k ++ [.int .i64 (-1), .int .u32 k, .int .u32 k, .bool true, .int .u8 255]))
    (hu : Upd [] w w2) (h5 : w2.heap[w.heap.size]? = some (.cells #[.int .i64 n, v, .slice none 0 0, .int .i64 2] 113 (0, 0))) :
    NewRel w n (.int .u32 (k + 1 : Nat)) (w2.setCell ⟨w.heap.size, 1, none⟩ (.slice (some ⟨g, 0, none⟩) (k + 1) cap)) := by
  refine ⟨k + 1, .slice (some ⟨g, 0, none⟩) (k + 1) cap, by omega, rfl, ?_, ?_, hu.setCell (.inr (Nat.le_refl _)) _⟩
  · rw [heap_set_eq h5]; rfl
  · rw [newFlat_succ]
    have hg := (hown.lt g rfl).1
    exact row_ne hown (by simp [Value.ownBlock]; omega) _

theorem new_end {w wr : World} {n : Nat} (hn : (ArenaV.new n).Ok) (h : NewRel w n (.int .u32 2) wr) : ∃ F, ArenaAt wr w.heap.size (ArenaV.new n) F ∧ Upd [] w wr ∧ Sub [] w F := by
  obtain ⟨k, v, hk, hi, h5, h6, hu⟩ := h
  have : k = 2 := by simp at hi; omega
  subst this
  obtain ⟨g, cap, rfl, hb, _⟩ := h6.form (by omega)
  refine ⟨[w.heap.size, g], ⟨⟨g, cap, .slice none 0 0, h5, row_base h6 (by omega), World.ownsRow_nil _ _ _ _, by simp [Value.ownBlock], by omega, by simp [Value.ownBlock], by simp [Value.ownBlock]⟩, hn⟩, hu, ?_⟩
  intro k hk
  simp at hk
  right; omega

set_option maxRecDepth 100000 in
set_option maxHeartbeats 800000 in
theorem new_spec (n : Nat) (w : World) (h2 : 2 ≤ n) (hm : n ≤ 1048576) :
    Calls Try.prog 49 #[.int .i64 n] w fun e w' => ∃ b F, e = .returned (.tuple #[.pointer (some ⟨b, 0, none⟩), .int .i64 0]) ∧ ArenaAt w' b (ArenaV.new n) F ∧ Upd [] w w' ∧ Sub [] w F := by
  have HN := Lib.hid (ArenaV.new_ok h2 hm)
  have hd : decide ((n : Int) < 2) = false := by simp; omega
  have hd2 : decide ((1048576 : Int) < (n : Int)) = false := by simp; omega
  obtain ⟨i, hi0, hz0, hz1', hz2⟩ := info_parts Try.infoPlace
  have HI := Lib.hid hi0
  have HZ := Lib.hid hz0
  have HZ1 := Lib.hid hz1'
  have HZ2 := Lib.hid hz2
  clear hi0 hz0 hz1' hz2
  go_enter Try.func49, Try.ntmps49
  go_wp2
  go_loopw [15] (fun i wr => NewRel w n i wr) (fun i _ => 2 - (intOf i).toNat)
  case atStart => exact new_start w n
  case round =>
    obtain ⟨k, v, hk, rfl, h5, h6, hu⟩ := hrel
    by_cases hlt : k < 2
    · have hc1 : wr.cell? ⟨w.heap.size, 1, none⟩ = some v := cell_at h5 rfl
      obtain ⟨va, vc, hv, _⟩ := row_nil_len h6
      subst hv
      have H5 := Lib.hid h5
      have H6 := Lib.hid h6
      have HU := Lib.hid hu
      have HK := Lib.hid (new_keep (X := .cells #[.int .i64 (-1), .int .u32 k, .int .u32 k, .bool true, .int .u8 255] 118 (0, 0)) h5 h6 hu)
      clear h5 h6 hu
      have HC2' : Hid (∀ u, u ∈ [Value.int .i64 (-1), .int .u32 k, .int .u32 k, .bool true, .int .u8 255] → u.oneCell' = true) := by intro u hu; simp at hu; rcases hu with rfl | rfl | rfl | rfl | rfl <;> rfl
      go_wp2_with (at_builtin; go_must (refine wpList_append_lies _ rfl (.tmp 22) (.tmp 27) 111 rfl (w.heap.size + 1) 118 i _ 5 24 Try.underlying111 HI.out HZ.out HZ1.out HZ2.out (by rfl) (by decide) _ k (newFlat k) rfl (H6.out.alloc _) ⟨wr.heap.size, 0, none⟩ 1 1 [.int .i64 (-1), .int .u32 k, .int .u32 k, .bool true, .int .u8 255] rfl rfl ?c1 HC2'.out (by omega) (by unfold maxLen; omega) (by omega) (by have := HU.out.size; have := (heap_lt H5.out); simp; omega) _ rfl ?_))
      case c1 => exact World.news_of_block (heap_alloc_new wr _)
      intro g cap w2 hown hgr hat hlt2
      obtain ⟨k1, k2, k3⟩ := HK.out w2 hgr
      have HX := Lib.hid (And.intro hown hat)
      clear hown hgr hat
      go_wp2_with fail
      go_roundw
      case rel => exact new_step hlt HX.out.1 k3.out.1 k3.out.2
      case measure => simp [intOf]; omega
    · have : k = 2 := by omega
      subst this
      have HE := Lib.hid (new_end HN.out ⟨2, v, by omega, rfl, h5, h6, hu⟩)
      clear h5 h6 hu
      go_wp2
      go_ret2
      obtain ⟨F, q⟩ := HE.out
      exact ⟨_, F, rfl, q⟩
end Go.Proofs.Ytnenhecnkidnpaa
