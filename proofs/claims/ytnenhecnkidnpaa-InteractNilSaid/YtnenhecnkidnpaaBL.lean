/- The leaves: what an operation is at values. -/
import Derived.Test.YtnenhecnkidnpaaBG
import Derived.Deep.QuietTactic
namespace Go.Proofs.Ytnenhecnkidnpaa
open Go.RowKit Go.Maps Go.ChangeMaps Go.WideShapes

set_option maxRecDepth 100000 in
theorem bit_spec (a : Bool) (w : World) : Calls Try.prog 41 #[.bool a] w fun e w' => e = .returned (.int .u8 (if a then 1 else 0 : Nat)) ∧ w' = w := by
  cases a with
  | true =>
    go_enter Try.func41, Try.ntmps41
    go_wp2_with fail
    go_ret
    exact ⟨rfl, rfl⟩
  | false =>
    go_enter Try.func41, Try.ntmps41
    go_wp2_with fail
    go_ret
    exact ⟨rfl, rfl⟩

/-- bit 2*a+b of op -/
def opB (op : Nat) (a b : Bool) : Bool := op.testBit (2 * (if a then 1 else 0) + (if b then 1 else 0))

theorem op_key (op : Nat) (h : op ≤ 15) : (bits BinOp.and IntKind.u8 (op : Int) 1 == 1) = opB op false false ∧ (bits BinOp.and IntKind.u8 ((op : Int) / 2) 1 == 1) = opB op false true ∧ (bits BinOp.and IntKind.u8 ((op : Int) / 4) 1 == 1) = opB op true false ∧ (bits BinOp.and IntKind.u8 ((op : Int) / 8) 1 == 1) = opB op true true := by
  have key : ∀ op ∈ List.range 16, ((bits BinOp.and IntKind.u8 (op : Int) 1 == 1) = opB op false false ∧ (bits BinOp.and IntKind.u8 ((op : Int) / 2) 1 == 1) = opB op false true ∧ (bits BinOp.and IntKind.u8 ((op : Int) / 4) 1 == 1) = opB op true false ∧ (bits BinOp.and IntKind.u8 ((op : Int) / 8) 1 == 1) = opB op true true) := by decide
  exact key op (List.mem_range.2 (by omega))

set_option maxRecDepth 100000 in
theorem leafB_spec (op cb : Nat) (a b c : Bool) (w : World) (ho : op ≤ 15) (hc : w.cell? ⟨cb, 0, none⟩ = some (.int .u8 op)) :
    Calls Try.prog 40 #[.bool a, .bool b, .bool c, .pointer (some ⟨cb, 0, none⟩)] w fun e w' => e = .returned (.bool (opB op a b)) ∧ Upd [] w w' := by
  have hb := World.block_lt_of_cell? _ _ hc
  have HK := Lib.hid (op_key op ho)
  cases a <;> cases b
  · go_enter Try.func40, Try.ntmps40
    go_wp2_with fail
    go_quiet ((go_at_call 41; exact Calls.quiet_of_same (bit_spec _ _)))
    go_wp2_with fail
    go_ret
    exact ⟨by rw [← HK.out.1]; rfl, (Upd.refl _ _).drewN _⟩
  · go_enter Try.func40, Try.ntmps40
    go_wp2_with fail
    go_quiet ((go_at_call 41; exact Calls.quiet_of_same (bit_spec _ _)))
    go_wp2_with fail
    go_ret
    exact ⟨by rw [← HK.out.2.1]; rfl, (Upd.refl _ _).drewN _⟩
  · go_enter Try.func40, Try.ntmps40
    go_wp2_with fail
    go_quiet ((go_at_call 41; exact Calls.quiet_of_same (bit_spec _ _)))
    go_wp2_with fail
    go_ret
    exact ⟨by rw [← HK.out.2.2.1]; rfl, (Upd.refl _ _).drewN _⟩
  · go_enter Try.func40, Try.ntmps40
    go_wp2_with fail
    go_quiet ((go_at_call 41; exact Calls.quiet_of_same (bit_spec _ _)))
    go_wp2_with fail
    go_ret
    exact ⟨by rw [← HK.out.2.2.2]; rfl, (Upd.refl _ _).drewN _⟩

set_option maxRecDepth 100000 in
theorem leafI_spec (a b c : Bool) (w : World) :
    Calls Try.prog 37 #[.bool a, .bool b, .bool c] w fun e w' => e = .returned (.bool (if a then b else c)) ∧ Upd [] w w' := by
  cases a <;> cases b
  · go_enter Try.func37, Try.ntmps37
    go_wp2_with fail
    go_ret
    exact ⟨rfl, Upd.refl _ _⟩
  · go_enter Try.func37, Try.ntmps37
    go_wp2_with fail
    go_ret
    exact ⟨rfl, Upd.refl _ _⟩
  · go_enter Try.func37, Try.ntmps37
    go_wp2_with fail
    go_ret
    exact ⟨rfl, Upd.refl _ _⟩
  · go_enter Try.func37, Try.ntmps37
    go_wp2_with fail
    go_ret
    exact ⟨rfl, Upd.refl _ _⟩

theorem enters_I : Enters 37 := fun args w => by simp [go_sem]
theorem enters_B : Enters 40 := fun args w => by simp [go_sem]
end Go.Proofs.Ytnenhecnkidnpaa
