/- ApplyNil, walked. -/
import Derived.Test.YtnenhecnkidnpaaLA
namespace Go.Proofs.Ytnenhecnkidnpaa
open Go.RowKit Go.Maps Go.ChangeMaps Go.WideShapes

/-- a call as a value -/
def opV (k a b c o : Int) (l : Value) (d : Bool) : Value := .agg #[.int .i64 k, .int .i64 a, .int .i64 b, .int .i64 c, .int .u8 o, l, .bool d]

theorem opCells (w : World) (k a b c o : Int) (l : Value) (d : Bool) : (w.alloc (.cells #[.int .i64 k, .int .i64 a, .int .i64 b, .int .i64 c, .int .u8 o, l, .bool d] 24 (0, 0))).cell? ⟨w.heap.size, 0, none⟩ = some (.int .i64 k) ∧
    (w.alloc (.cells #[.int .i64 k, .int .i64 a, .int .i64 b, .int .i64 c, .int .u8 o, l, .bool d] 24 (0, 0))).cell? ⟨w.heap.size, 1, none⟩ = some (.int .i64 a) ∧
    (w.alloc (.cells #[.int .i64 k, .int .i64 a, .int .i64 b, .int .i64 c, .int .u8 o, l, .bool d] 24 (0, 0))).cell? ⟨w.heap.size, 4, none⟩ = some (.int .u8 o) := by
  have e := heap_alloc_new w (.cells #[.int .i64 k, .int .i64 a, .int .i64 b, .int .i64 c, .int .u8 o, l, .bool d] 24 (0, 0))
  exact ⟨cell_at e rfl, cell_at e rfl, cell_at e rfl⟩

set_option maxRecDepth 100000 in
set_option maxHeartbeats 800000 in
theorem call_nil1 (a b c : Int) (o : Int) (lo : Option Addr) (ln lc : Nat) (d : Bool) (f g h : Int) (lv : Value) (w : World) :
    Calls Try.prog 6 #[.pointer none, .agg #[.int .i64 1, .int .i64 a, .int .i64 b, .int .i64 c, .int .u8 o, .slice lo ln lc, .bool d], .int .u32 f, .int .u32 g, .int .u32 h, lv] w fun e w' => e = .returned (.tuple #[.int .u32 0, .int .i64 10]) ∧ Upd [] w w' := by
  obtain ⟨x0, x1, x4⟩ := opCells w 1 a b c o (.slice lo ln lc) d
  go_enter Try.func6, Try.ntmps6
  go_wp2_with fail
  refine (const_nil _ _).mono ?_
  rintro e w1 ⟨rfl, hu⟩
  have HU := Lib.hid (((Upd.refl [] w).alloc _).trans hu)
  clear hu x0 x1 x4
  go_wp2_with fail
  go_ret2
  exact ⟨rfl, HU.out⟩

set_option maxRecDepth 100000 in
set_option maxHeartbeats 800000 in
theorem call_nil2 (a b c : Int) (o : Int) (lo : Option Addr) (ln lc : Nat) (d : Bool) (f g h : Int) (lv : Value) (w : World) :
    Calls Try.prog 6 #[.pointer none, .agg #[.int .i64 2, .int .i64 a, .int .i64 b, .int .i64 c, .int .u8 o, .slice lo ln lc, .bool d], .int .u32 f, .int .u32 g, .int .u32 h, lv] w fun e w' => e = .returned (.tuple #[.int .u32 0, .int .i64 10]) ∧ Upd [] w w' := by
  obtain ⟨x0, x1, x4⟩ := opCells w 2 a b c o (.slice lo ln lc) d
  go_enter Try.func6, Try.ntmps6
  go_wp2_with fail
  refine (var_nil _ _).mono ?_
  rintro e w1 ⟨rfl, hu⟩
  have HU := Lib.hid (((Upd.refl [] w).alloc _).trans hu)
  clear hu x0 x1 x4
  go_wp2_with fail
  go_ret2
  exact ⟨rfl, HU.out⟩

set_option maxRecDepth 100000 in
set_option maxHeartbeats 800000 in
theorem call_nil3 (a b c : Int) (o : Int) (lo : Option Addr) (ln lc : Nat) (d : Bool) (f g h : Int) (lv : Value) (w : World) :
    Calls Try.prog 6 #[.pointer none, .agg #[.int .i64 3, .int .i64 a, .int .i64 b, .int .i64 c, .int .u8 o, .slice lo ln lc, .bool d], .int .u32 f, .int .u32 g, .int .u32 h, lv] w fun e w' => e = .returned (.tuple #[.int .u32 0, .int .i64 10]) ∧ Upd [] w w' := by
  obtain ⟨x0, x1, x4⟩ := opCells w 3 a b c o (.slice lo ln lc) d
  go_enter Try.func6, Try.ntmps6
  go_wp2_with fail
  refine (not_nil _ _).mono ?_
  rintro e w1 ⟨rfl, hu⟩
  have HU := Lib.hid (((Upd.refl [] w).alloc _).trans hu)
  clear hu x0 x1 x4
  go_wp2_with fail
  go_ret2
  exact ⟨rfl, HU.out⟩

set_option maxRecDepth 100000 in
set_option maxHeartbeats 800000 in
theorem call_nil4 (a b c : Int) (o : Int) (lo : Option Addr) (ln lc : Nat) (d : Bool) (f g h : Int) (lv : Value) (w : World) :
    Calls Try.prog 6 #[.pointer none, .agg #[.int .i64 4, .int .i64 a, .int .i64 b, .int .i64 c, .int .u8 o, .slice lo ln lc, .bool d], .int .u32 f, .int .u32 g, .int .u32 h, lv] w fun e w' => e = .returned (.tuple #[.int .u32 0, .int .i64 10]) ∧ Upd [] w w' := by
  obtain ⟨x0, x1, x4⟩ := opCells w 4 a b c o (.slice lo ln lc) d
  go_enter Try.func6, Try.ntmps6
  go_wp2_with fail
  refine (and_nil _ _ _).mono ?_
  rintro e w1 ⟨rfl, hu⟩
  have HU := Lib.hid (((Upd.refl [] w).alloc _).trans hu)
  clear hu x0 x1 x4
  go_wp2_with fail
  go_ret2
  exact ⟨rfl, HU.out⟩

set_option maxRecDepth 100000 in
set_option maxHeartbeats 800000 in
theorem call_nil5 (a b c : Int) (o : Int) (lo : Option Addr) (ln lc : Nat) (d : Bool) (f g h : Int) (lv : Value) (w : World) :
    Calls Try.prog 6 #[.pointer none, .agg #[.int .i64 5, .int .i64 a, .int .i64 b, .int .i64 c, .int .u8 o, .slice lo ln lc, .bool d], .int .u32 f, .int .u32 g, .int .u32 h, lv] w fun e w' => e = .returned (.tuple #[.int .u32 0, .int .i64 10]) ∧ Upd [] w w' := by
  obtain ⟨x0, x1, x4⟩ := opCells w 5 a b c o (.slice lo ln lc) d
  go_enter Try.func6, Try.ntmps6
  go_wp2_with fail
  refine (or_nil _ _ _).mono ?_
  rintro e w1 ⟨rfl, hu⟩
  have HU := Lib.hid (((Upd.refl [] w).alloc _).trans hu)
  clear hu x0 x1 x4
  go_wp2_with fail
  go_ret2
  exact ⟨rfl, HU.out⟩

set_option maxRecDepth 100000 in
set_option maxHeartbeats 800000 in
theorem call_nil6 (a b c : Int) (o : Int) (lo : Option Addr) (ln lc : Nat) (d : Bool) (f g h : Int) (lv : Value) (w : World) :
    Calls Try.prog 6 #[.pointer none, .agg #[.int .i64 6, .int .i64 a, .int .i64 b, .int .i64 c, .int .u8 o, .slice lo ln lc, .bool d], .int .u32 f, .int .u32 g, .int .u32 h, lv] w fun e w' => e = .returned (.tuple #[.int .u32 0, .int .i64 10]) ∧ Upd [] w w' := by
  obtain ⟨x0, x1, x4⟩ := opCells w 6 a b c o (.slice lo ln lc) d
  go_enter Try.func6, Try.ntmps6
  go_wp2_with fail
  refine (xor_nil _ _ _).mono ?_
  rintro e w1 ⟨rfl, hu⟩
  have HU := Lib.hid (((Upd.refl [] w).alloc _).trans hu)
  clear hu x0 x1 x4
  go_wp2_with fail
  go_ret2
  exact ⟨rfl, HU.out⟩

set_option maxRecDepth 100000 in
set_option maxHeartbeats 800000 in
theorem call_nil7 (a b c : Int) (o : Int) (lo : Option Addr) (ln lc : Nat) (d : Bool) (f g h : Int) (lv : Value) (w : World) :
    Calls Try.prog 6 #[.pointer none, .agg #[.int .i64 7, .int .i64 a, .int .i64 b, .int .i64 c, .int .u8 o, .slice lo ln lc, .bool d], .int .u32 f, .int .u32 g, .int .u32 h, lv] w fun e w' => e = .returned (.tuple #[.int .u32 0, .int .i64 10]) ∧ Upd [] w w' := by
  obtain ⟨x0, x1, x4⟩ := opCells w 7 a b c o (.slice lo ln lc) d
  go_enter Try.func6, Try.ntmps6
  go_wp2_with fail
  refine (binary_nil _ _ _ _).mono ?_
  rintro e w1 ⟨rfl, hu⟩
  have HU := Lib.hid (((Upd.refl [] w).alloc _).trans hu)
  clear hu x0 x1 x4
  go_wp2_with fail
  go_ret2
  exact ⟨rfl, HU.out⟩

set_option maxRecDepth 100000 in
set_option maxHeartbeats 800000 in
theorem call_nil8 (a b c : Int) (o : Int) (lo : Option Addr) (ln lc : Nat) (d : Bool) (f g h : Int) (lv : Value) (w : World) :
    Calls Try.prog 6 #[.pointer none, .agg #[.int .i64 8, .int .i64 a, .int .i64 b, .int .i64 c, .int .u8 o, .slice lo ln lc, .bool d], .int .u32 f, .int .u32 g, .int .u32 h, lv] w fun e w' => e = .returned (.tuple #[.int .u32 0, .int .i64 10]) ∧ Upd [] w w' := by
  obtain ⟨x0, x1, x4⟩ := opCells w 8 a b c o (.slice lo ln lc) d
  go_enter Try.func6, Try.ntmps6
  go_wp2_with fail
  refine (ite_nil _ _ _ _).mono ?_
  rintro e w1 ⟨rfl, hu⟩
  have HU := Lib.hid (((Upd.refl [] w).alloc _).trans hu)
  clear hu x0 x1 x4
  go_wp2_with fail
  go_ret2
  exact ⟨rfl, HU.out⟩

set_option maxRecDepth 100000 in
set_option maxHeartbeats 800000 in
theorem call_nil9 (a b c : Int) (o : Int) (lo : Option Addr) (ln lc : Nat) (d : Bool) (f g h : Int) (lv : Value) (w : World) :
    Calls Try.prog 6 #[.pointer none, .agg #[.int .i64 9, .int .i64 a, .int .i64 b, .int .i64 c, .int .u8 o, .slice lo ln lc, .bool d], .int .u32 f, .int .u32 g, .int .u32 h, lv] w fun e w' => e = .returned (.tuple #[.int .u32 0, .int .i64 10]) ∧ Upd [] w w' := by
  obtain ⟨x0, x1, x4⟩ := opCells w 9 a b c o (.slice lo ln lc) d
  go_enter Try.func6, Try.ntmps6
  go_wp2_with fail
  refine (all_nil _ _).mono ?_
  rintro e w1 ⟨rfl, hu⟩
  have HU := Lib.hid (((Upd.refl [] w).alloc _).trans hu)
  clear hu x0 x1 x4
  go_wp2_with fail
  go_ret2
  exact ⟨rfl, HU.out⟩

set_option maxRecDepth 100000 in
set_option maxHeartbeats 800000 in
theorem call_nil10 (a b c : Int) (o : Int) (lo : Option Addr) (ln lc : Nat) (d : Bool) (f g h : Int) (lv : Value) (w : World) :
    Calls Try.prog 6 #[.pointer none, .agg #[.int .i64 10, .int .i64 a, .int .i64 b, .int .i64 c, .int .u8 o, .slice lo ln lc, .bool d], .int .u32 f, .int .u32 g, .int .u32 h, lv] w fun e w' => e = .returned (.tuple #[.int .u32 0, .int .i64 10]) ∧ Upd [] w w' := by
  obtain ⟨x0, x1, x4⟩ := opCells w 10 a b c o (.slice lo ln lc) d
  go_enter Try.func6, Try.ntmps6
  go_wp2_with fail
  refine (any_nil _ _).mono ?_
  rintro e w1 ⟨rfl, hu⟩
  have HU := Lib.hid (((Upd.refl [] w).alloc _).trans hu)
  clear hu x0 x1 x4
  go_wp2_with fail
  go_ret2
  exact ⟨rfl, HU.out⟩

end Go.Proofs.Ytnenhecnkidnpaa
