/- ApplyNil answers true. -/
import Derived.Test.YtnenhecnkidnpaaLB
namespace Go.Proofs.Ytnenhecnkidnpaa
open Go.RowKit Go.Maps Go.ChangeMaps Go.WideShapes

theorem call_nil (k : Nat) (h1 : 1 ≤ k) (h10 : k ≤ 10) (a b c : Int) (o : Int) (lo : Option Addr) (ln lc : Nat) (d : Bool) (f g h : Int) (lv : Value) (w : World) :
    Calls Try.prog 6 #[.pointer none, .agg #[.int .i64 k, .int .i64 a, .int .i64 b, .int .i64 c, .int .u8 o, .slice lo ln lc, .bool d], .int .u32 f, .int .u32 g, .int .u32 h, lv] w fun e w' => e = .returned (.tuple #[.int .u32 0, .int .i64 10]) ∧ Upd [] w w' := by
  obtain rfl | rfl | rfl | rfl | rfl | rfl | rfl | rfl | rfl | rfl : k = 1 ∨ k = 2 ∨ k = 3 ∨ k = 4 ∨ k = 5 ∨ k = 6 ∨ k = 7 ∨ k = 8 ∨ k = 9 ∨ k = 10 := by omega
  · exact call_nil1 a b c o lo ln lc d f g h lv w
  · exact call_nil2 a b c o lo ln lc d f g h lv w
  · exact call_nil3 a b c o lo ln lc d f g h lv w
  · exact call_nil4 a b c o lo ln lc d f g h lv w
  · exact call_nil5 a b c o lo ln lc d f g h lv w
  · exact call_nil6 a b c o lo ln lc d f g h lv w
  · exact call_nil7 a b c o lo ln lc d f g h lv w
  · exact call_nil8 a b c o lo ln lc d f g h lv w
  · exact call_nil9 a b c o lo ln lc d f g h lv w
  · exact call_nil10 a b c o lo ln lc d f g h lv w

set_option maxRecDepth 100000 in
set_option maxHeartbeats 1600000 in
theorem applyNil_walk (k0 a b c : Int) (o : Int) (lo : Option Addr) (ln lc : Nat) (d : Bool) (w : World) :
    Calls Try.prog 3 #[.agg #[.int .i64 k0, .int .i64 a, .int .i64 b, .int .i64 c, .int .u8 o, .slice lo ln lc, .bool d]] w fun e w' => e = .returned (.bool true) ∧ Upd [] w w' := by
  have HBX : Hid ((w.alloc (.cells #[.int .i64 k0, .int .i64 a, .int .i64 b, .int .i64 c, .int .u8 o, .slice lo ln lc, .bool d] 24 (0, 0))).heap[w.heap.size]? = some (.cells #[.int .i64 k0, .int .i64 a, .int .i64 b, .int .i64 c, .int .u8 o, .slice lo ln lc, .bool d] 24 (0, 0))) := heap_alloc_new w _
  go_enter Try.func3, Try.ntmps3
  go_wp2_with fail
  refine (awake10_spec _).mono ?_
  rintro e w1 ⟨rfl, hu⟩
  have HB1 : Hid (w1.heap[w.heap.size]? = some (.cells #[.int .i64 k0, .int .i64 a, .int .i64 b, .int .i64 c, .int .u8 o, .slice lo ln lc, .bool d] 24 (0, 0))) := (hu.block _ (heap_lt HBX.out) (by simp)).trans HBX.out
  have HU := Lib.hid (((Upd.refl [] w).alloc _).trans hu)
  clear hu HBX
  go_wp2_with fail
  go_loopg [3] 10 (fun g s3 wr => ∃ (k : Nat) (kx : Int), 11 - k = g + 0 ∧ 1 ≤ k ∧ k ≤ 11 ∧ s3 = .int .i64 k ∧ wr.heap[w.heap.size]? = some (.cells #[.int .i64 kx, .int .i64 a, .int .i64 b, .int .i64 c, .int .u8 o, .slice lo ln lc, .bool d] 24 (0, 0)) ∧ Upd [] w wr)
  case atStart => exact ⟨1, k0, rfl, by omega, by omega, rfl, HB1.out, HU.out⟩
  case round =>
    obtain ⟨k, kx, hg, h1, h11, rfl, hb, hU⟩ := hrel
    by_cases hk : k ≤ 10
    · have hki : (k : Int) ≤ 10 := by omega
      have x0 := cell_at (j := 0) hb rfl
      have x1 := cell_at (j := 1) hb rfl
      have x2 := cell_at (j := 2) hb rfl
      have x3 := cell_at (j := 3) hb rfl
      have x4 := cell_at (j := 4) hb rfl
      have x5 := cell_at (j := 5) hb rfl
      have x6 := cell_at (j := 6) hb rfl
      have f0 := frozen_at 0 hb
      have HB := Lib.hid hb
      have HU2 := Lib.hid hU
      clear hb hU
      go_wp2_with fail
      refine (call_nil k h1 hk a b c o lo ln lc d _ _ _ _ _).mono ?_
      rintro e w2 ⟨rfl, hu⟩
      have HE : Hid (w2.heap[w.heap.size]? = some (.cells #[.int .i64 k, .int .i64 a, .int .i64 b, .int .i64 c, .int .u8 o, .slice lo ln lc, .bool d] 24 (0, 0)) ∧ Upd [] w w2) := by
        have e1 := heap_set_eq (j := 0) HB.out (.int .i64 k)
        have e2 : ((wr.setCell ⟨w.heap.size, 0, none⟩ (.int .i64 k)).alloc (.cells #[.int .u32 9] 27 (0, 0))).heap[w.heap.size]? = _ := (heap_alloc_old _ _ (heap_lt e1)).trans e1
        have u1 : Upd [] w ((wr.setCell ⟨w.heap.size, 0, none⟩ (.int .i64 k)).alloc (.cells #[.int .u32 9] 27 (0, 0))) := (HU2.out.setCell (p := ⟨w.heap.size, 0, none⟩) (.inr (Nat.le_refl _)) _).alloc _
        exact ⟨(hu.block _ (heap_lt e2) (by simp)).trans e2, u1.trans hu⟩
      clear hu x0 x1 x2 x3 x4 x5 x6 f0
      go_wp2_with fail
      go_roundg (10 - k)
      case measure => omega
      case rel => exact ⟨k + 1, k, by omega, by omega, by omega, by simp, HE.out.1, HE.out.2⟩
    · obtain rfl : k = 11 := by omega
      have HU2 := Lib.hid hU
      clear hb hU
      go_wp2_with fail
      go_ret
      exact ⟨rfl, HU2.out⟩
end Go.Proofs.Ytnenhecnkidnpaa
