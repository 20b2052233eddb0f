/- ApplyNil: for every input the law returns true and changes nothing that was there; no condition. -/
import Derived.Test.YtnenhecnkidnpaaLC
import Derived.WalkKit
import Derived.ProofKit
import Derived.OpenShut
import Derived.ShutString
import Derived.ChangeOld
import Derived.Below
namespace Go.Proofs.Ytnenhecnkidnpaa.applyNil
open Go.ChangeShapes Go.WideShapes Go.ChangeAt Go.RowKit
set_option linter.unusedVariables false

theorem own : ownKnob Try.prog.godebug = none := by kernel_rfl
theorem laidOut : laidOutB Try.prog = true := by kernel_rfl

theorem opTypes : Try.prog.cellTypes Try.prog.depth 24 = some [3, 3, 3, 3, 5, 22, 4] := by kernel_rfl
theorem opSize : Try.prog.cellsOf 24 = 7 := by kernel_rfl

theorem okWide_row {P : Program} {w : World} {r : Reach} {base : Nat} {t : TypeId} {v : Value} {fs : Array Field} (ht : P.underlying t = some (.struct fs)) (h : Value.okWide P w r base t v) : ∃ cs, v = .agg cs ∧ cs.size = P.cellsOf t ∧ Row.okWide P w r base t cs := by
  unfold Value.okWide at h
  rw [ht] at h
  exact h

theorem cell_int {P : Program} {w : World} {r : Reach} {base : Nat} {t : TypeId} {v : Value} {k : IntKind} (ht : P.underlying t = some (.int k)) (h : Cell.okWide P w r base t v) : ∃ n, v = .int k n := by
  refine okWide_int (w := w) (r := r) (base := base) ht ?_
  unfold Value.okWide
  rw [ht]; exact h
theorem cell_bool {P : Program} {w : World} {r : Reach} {base : Nat} {t : TypeId} {v : Value} (ht : P.underlying t = some .bool) (h : Cell.okWide P w r base t v) : ∃ b, v = .bool b := by
  refine okWide_bool (w := w) (r := r) (base := base) ht ?_
  unfold Value.okWide
  rw [ht]; exact h
theorem cell_slice {P : Program} {w : World} {r : Reach} {base : Nat} {t e : TypeId} {v : Value} (ht : P.underlying t = some (.slice e)) (h : Cell.okWide P w r base t v) : ∃ a len cap, v = .slice a len cap := by
  refine okWide_slice (w := w) (r := r) (base := base) ht ?_
  unfold Value.okWide
  rw [ht]; exact h

set_option maxRecDepth 100000 in
/-- what a call is, as a value -/
theorem op_shape {W : World} {r : Reach} {base : Nat} {v : Value} (h : Value.okWide Try.prog W r base 24 v) :
    ∃ (k a b c o : Int) (lo : Option Addr) (ln lc : Nat) (d : Bool), v = .agg #[.int .i64 k, .int .i64 a, .int .i64 b, .int .i64 c, .int .u8 o, .slice lo ln lc, .bool d] := by
  obtain ⟨cs, rfl, hsz, ts, hts, _, hc⟩ := okWide_row Try.underlying24 h
  obtain rfl := Option.some.inj (opTypes.symm.trans hts)
  have hsz := hsz.trans opSize
  obtain ⟨l⟩ := cs
  match l, hsz with
  | [c0, c1, c2, c3, c4, c5, c6], _ =>
    have cell : ∀ (i : Nat) (v : Value) (u : TypeId), (#[c0, c1, c2, c3, c4, c5, c6] : Array Value)[i]? = some v → ([3, 3, 3, 3, 5, 22, 4] : List TypeId)[i % 7]? = some u → Cell.okWide Try.prog W r base u v := by
      intro i v u hv hu
      obtain ⟨u', hu', h⟩ := hc i v hv
      have e : u' = u := Option.some.inj (hu'.symm.trans hu)
      rw [← e]; exact h
    obtain ⟨k, rfl⟩ := cell_int Try.underlying3 (cell 0 c0 _ rfl rfl)
    obtain ⟨a, rfl⟩ := cell_int Try.underlying3 (cell 1 c1 _ rfl rfl)
    obtain ⟨b, rfl⟩ := cell_int Try.underlying3 (cell 2 c2 _ rfl rfl)
    obtain ⟨c, rfl⟩ := cell_int Try.underlying3 (cell 3 c3 _ rfl rfl)
    obtain ⟨o, rfl⟩ := cell_int Try.underlying5 (cell 4 c4 _ rfl rfl)
    obtain ⟨lo, ln, lc, rfl⟩ := cell_slice Try.underlying22 (cell 5 c5 _ rfl rfl)
    obtain ⟨d, rfl⟩ := cell_bool Try.underlying4 (cell 6 c6 _ rfl rfl)
    exact ⟨k, a, b, c, o, lo, ln, lc, d, rfl⟩

theorem walk (k a b c o : Int) (lo : Option Addr) (ln lc : Nat) (d : Bool) (w : World) :
    Calls Try.prog 3 #[.agg #[.int .i64 k, .int .i64 a, .int .i64 b, .int .i64 c, .int .u8 o, .slice lo ln lc, .bool d]] w fun e w' => e = .returned (.bool true) ∧ Below w.heap.size w w' :=
  (applyNil_walk k a b c o lo ln lc d w).mono fun _ _ ⟨h, u⟩ => ⟨h, u.os, u.tape, u.output, u.size, fun k hk => u.block k hk (by simp)⟩

/-! ### THE ROW's STEP -/
set_option maxRecDepth 100000 in
theorem lifted (os : Os) (started : os.Started) (H : Type) (enc : TypeId × Value → H) :
    ReturnsInHanded {} Try.checked os 3 .any (Rows.applyNilSpec.pre6 enc Try.prog Try.f3 Rows.applyNilRow.domain false) (Rows.applyNilSpec.post enc Try.prog Try.f3 false true false false) := by
  refine returnsInHanded_of_change (C := Try.checked) own started (by kernel_rfl) Try.func3
    (ChangeSpec.witness6 (enc := enc) (C := Try.checked) false ⟨#[], #[.agg #[.int .i64 0, .int .i64 0, .int .i64 0, .int .i64 0, .int .u8 0, .slice none 0 0, .bool false]], []⟩ 8 (by kernel_rfl) (by kernel_rfl) (by kernel_rfl) (by kernel_rfl)) ?_
  intro W base args ds gs before hval0 hW hcnd _
  have hval : ∀ (j : Nat) t v, Try.f3.params[j]? = some t → args[j]? = some v → Value.okWide Try.prog W .any base t v := hval0
  have hW' := hW
  obtain ⟨p, q, hA0, hV, rfl, hfz, hnd⟩ := hW
  have hA : DataW.TrodAll enc Try.prog W 0 (fun _ => true) true Try.f3.params.toList args.toList ds p := hA0
  rw [Try.params3] at hA hval
  obtain ⟨v0, vs0, d0, ds0, p0, q0, hargs, rfl, rfl, h0, r0⟩ := trodAll_cons hA
  obtain ⟨rfl, rfl, rfl⟩ := trodAll_nil r0
  obtain rfl : args = #[v0] := by cases args; simp_all
  obtain ⟨rfl, rfl⟩ := trodVars_none hV
  obtain ⟨k, a, b, c, o, lo, ln, lc, d, rfl⟩ := op_shape (hval 0 24 v0 rfl rfl)
  have k1 := h0
  have lt1 : ∀ x ∈ p0, x.block < W.heap.size := by obtain ⟨m, hm⟩ := k1; exact DataW.trod_lt m _ _ _ hm
  clear hA0 hval0
  refine (walk k a b c o lo ln lc d W).mono fun e W' ⟨he, bel⟩ => ?_
  subst he
  exact ⟨_, rfl, _, _, _, [], _, [], hW', trodAll_mk1 (shut_bool Try.underlying4 _), (trodAll_cons_mk (Below.trod laidOut (by kernel_rfl) (of_decide_eq_true (by kernel_rfl)) k1 bel lt1) trodAll_mk0), rfl, bel.frame _, fun h => by cases h⟩

theorem over : Rows.applyNilRow.holds Try.pinned (OpenSpec.ofChange Rows.applyNilSpec) :=
  OpenClaim.holds_of_wide 3 Try.f3 rfl rfl rfl rfl rfl rfl rfl ⟨rfl, rfl, rfl, rfl, rfl⟩ rfl rfl rfl rfl rfl (by kernel_rfl) Try.func3 (by kernel_rfl)
    (of_decide_eq_true (by kernel_rfl)) (by unfold Func.isWrapper; first | (rw [if_pos (by decide +kernel)]; kernel_rfl) | (rw [if_neg (by decide +kernel)]; exact ⟨rfl, rfl⟩))
    (fun os started H enc _ => lifted os started H enc)

/-- ████ THE STATEMENT ████ -/
theorem proved : Rows.ApplyNilSaid := over
#print axioms proved
end Go.Proofs.Ytnenhecnkidnpaa.applyNil
