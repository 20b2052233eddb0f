/- ApplySixteen's walk: each of the sixteen out of and, or, not; if-then-else. -/
import Derived.Test.YtnenhecnkidnpaaGreatPL26
namespace Go.Proofs.YtnenhecnkidnpaaGreat
open Go.RowKit Go.Maps Go.ChangeMaps Go.WideShapes

/-- what the walk holds on to -/
def Base5 (L : List (Nat × ((Nat → Bool) → Bool))) (a b c na nb : Nat) (A B C : (Nat → Bool) → Bool) : Prop := (a, A) ∈ L ∧ (b, B) ∈ L ∧ (c, C) ∈ L ∧ (na, fun y => !A y) ∈ L ∧ (nb, fun y => !B y) ∈ L
theorem Base5.cons {L : List (Nat × ((Nat → Bool) → Bool))} {a b c na nb : Nat} {A B C : (Nat → Bool) → Bool} (h : Base5 L a b c na nb A B C) (x : Nat × ((Nat → Bool) → Bool)) : Base5 (x :: L) a b c na nb A B C :=
  ⟨List.mem_cons_of_mem _ h.1, List.mem_cons_of_mem _ h.2.1, List.mem_cons_of_mem _ h.2.2.1, List.mem_cons_of_mem _ h.2.2.2.1, List.mem_cons_of_mem _ h.2.2.2.2⟩

theorem op_bit0 (op : Nat) (h : op ≤ 15) : (bits BinOp.and IntKind.u8 (op : Int) 1 == 0) = !op.testBit 0 ∧ (bits BinOp.and IntKind.u8 ((op : Int) / 2) 1 == 0) = !op.testBit 1 ∧ (bits BinOp.and IntKind.u8 ((op : Int) / 4) 1 == 0) = !op.testBit 2 ∧ (bits BinOp.and IntKind.u8 ((op : Int) / 8) 1 == 0) = !op.testBit 3 := by
  have key : ∀ op ∈ List.range 16, ((bits BinOp.and IntKind.u8 (op : Int) 1 == 0) = !op.testBit 0 ∧ (bits BinOp.and IntKind.u8 ((op : Int) / 2) 1 == 0) = !op.testBit 1 ∧ (bits BinOp.and IntKind.u8 ((op : Int) / 4) 1 == 0) = !op.testBit 2 ∧ (bits BinOp.and IntKind.u8 ((op : Int) / 8) 1 == 0) = !op.testBit 3) := by decide
  exact key op (List.mem_range.2 (by omega))
theorem opB_no (op i : Nat) (h : op ≤ 15) (hi : i ≤ 3) (ht : op.testBit i = false) (a b : Bool) : opB (op % 2 ^ (i + 1)) a b = opB (op % 2 ^ i) a b := by
  have key : ∀ op ∈ List.range 16, ∀ i ∈ List.range 4, op.testBit i = false → ∀ a b, opB (op % 2 ^ (i + 1)) a b = opB (op % 2 ^ i) a b := by decide
  exact key op (List.mem_range.2 (by omega)) i (List.mem_range.2 (by omega)) ht a b
theorem opB_yes (op i : Nat) (h : op ≤ 15) (hi : i ≤ 3) (ht : op.testBit i = true) (a b : Bool) : opB (op % 2 ^ (i + 1)) a b = (opB (op % 2 ^ i) a b || ((if 2 ≤ i then a else !a) && (if i % 2 = 1 then b else !b))) := by
  have key : ∀ op ∈ List.range 16, ∀ i ∈ List.range 4, op.testBit i = true → ∀ a b, opB (op % 2 ^ (i + 1)) a b = (opB (op % 2 ^ i) a b || ((if 2 ≤ i then a else !a) && (if i % 2 = 1 then b else !b))) := by decide
  exact key op (List.mem_range.2 (by omega)) i (List.mem_range.2 (by omega)) ht a b

set_option maxRecDepth 100000 in
set_option maxHeartbeats 12800000 in
theorem applySixteen_walk (op : Nat) (ho : op ≤ 255) (n room i1 i2 i3 : Int) (la wa : Option Addr) (ln lc wn wk : Nat) (Ls Ws : List Int) (w : World) (hL : RowOf w .i64 la ln Ls) (hW : RowOf w .u64 wa wn Ws) (hU : ∀ x, x ∈ Ws → U64 x) :
    Calls Tryz.prog 4 #[.agg #[.int .i64 n, .int .i64 room, .slice la ln lc, .slice wa wn wk], .int .i64 i1, .int .i64 i2, .int .i64 i3, .int .u8 op] w fun e w' => e = .returned (.bool true) ∧ Upd [] w w' := by
  have HRF : Hid (∀ x : World, Upd [] w x → Calls Tryz.prog 12 #[.agg #[.int .i64 n, .int .i64 room, .slice la ln lc, .slice wa wn wk], .int .i64 i1, .int .i64 i2, .int .i64 i3] x fun e w' => RefsQ x e w') := fun x u =>
    refs_spec n room i1 i2 i3 la wa ln lc wn wk Ls Ws x (hL.keep0 u) (hW.keep0 u) hU
  have HU0 : Hid (Upd [] w (w.alloc (.cells #[.int .i64 n, .int .i64 room, .slice la ln lc, .slice wa wn wk] 25 (0, 0)))) := (Upd.refl _ _).alloc _
  clear hL hW hU
  go_enter Tryz.func4, Tryz.ntmps4
  go_wp2_with fail
  refine (HRF.out _ HU0.out).mono ?_
  rintro e w1 hE
  obtain ⟨b0, m, g, _, _, a, b, c, A, B, C, rfl, hg, hs, hu, ⟨pa, pn, pc, rfl⟩, qa, qn, qc, rfl⟩ := hE.ex
  have e0 : worldV b0 m (.slice pa pn pc) (.slice qa qn qc) = .agg #[.pointer (some ⟨b0, 0, none⟩), .pointer (some ⟨m, 0, none⟩), .slice pa pn pc, .slice qa qn qc] := rfl
  rw [e0]
  have HU1 := Lib.hid (HU0.out.trans hu)
  have hbx := boxW w1 (.pointer (some ⟨b0, 0, none⟩)) (.pointer (some ⟨m, 0, none⟩)) (.slice pa pn pc) (.slice qa qn qc)
  have hu2 : Upd [] w1 (w1.alloc (.cells #[.pointer (some ⟨b0, 0, none⟩), .pointer (some ⟨m, 0, none⟩), .slice pa pn pc, .slice qa qn qc] 31 (0, 0))) := (Upd.refl _ _).alloc _
  have hle : w.heap.size ≤ (w.alloc (.cells #[.int .i64 n, .int .i64 room, .slice la ln lc, .slice wa wn wk] 25 (0, 0))).heap.size := HU0.out.size
  generalize hN0 : (w.alloc (.cells #[.int .i64 n, .int .i64 room, .slice la ln lc, .slice wa wn wk] 25 (0, 0))).heap.size = n0 at *
  obtain ⟨wA, hwA⟩ : ∃ wA, w1.alloc (.cells #[.pointer (some ⟨b0, 0, none⟩), .pointer (some ⟨m, 0, none⟩), .slice pa pn pc, .slice qa qn qc] 31 (0, 0)) = wA := ⟨_, rfl⟩
  rw [hwA] at hbx hu2
  have HWA := Lib.hid hwA
  have HX := Lib.hid (And.intro hbx.1 (And.intro (cell_at (j := 0) ((hu2.block _ (heap_lt hg) (by simp)).trans hg) rfl) (And.intro (cell_at (j := 1) ((hu2.block _ (heap_lt hg) (by simp)).trans hg) rfl) (cell_at (j := 2) ((hu2.block _ (heap_lt hg) (by simp)).trans hg) rfl))))
  have HS0 := Lib.hid (hs.keep0 hu2)
  have HUA := Lib.hid (HU1.out.trans hu2)
  have HLE := Lib.hid hle
  clear hE hg hs hu e0 hbx hu2 hwA hle
  go_upto_region 2 with fail
  rw [HWA.out]
  go_wp2_with fail
  refine (awake10_spec _).mono ?_
  rintro e wB ⟨rfl, hu⟩
  have HS1 := Lib.hid (HS0.out.keep0 hu)
  have HUB := Lib.hid (HUA.out.trans hu)
  have HK : Hid (∀ x : World, Upd [] wB x → x.cell? ⟨w1.heap.size, 0, none⟩ = some (.pointer (some ⟨b0, 0, none⟩)) ∧ x.cell? ⟨g, 0, none⟩ = some (.int .u32 a) ∧ x.cell? ⟨g, 1, none⟩ = some (.int .u32 b) ∧ x.cell? ⟨g, 2, none⟩ = some (.int .u32 c)) := fun x u =>
    ⟨(hu.trans u).cell0 HX.out.1, (hu.trans u).cell0 HX.out.2.1, (hu.trans u).cell0 HX.out.2.2.1, (hu.trans u).cell0 HX.out.2.2.2⟩
  clear hu HS0 HUA HX
  go_upto_region 4 with fail
  go_region_held3 (fun x => x.cell? ⟨w1.heap.size, 0, none⟩ = some (.pointer (some ⟨b0, 0, none⟩)) ∧ x.cell? ⟨g, 0, none⟩ = some (.int .u32 a) ∧ x.cell? ⟨g, 1, none⟩ = some (.int .u32 b) ∧ x.cell? ⟨g, 2, none⟩ = some (.int .u32 c)) (exact HK.out _ (Upd.refl _ _).drew) (fail)
  go_wp2_with fail
  refine (not_ses (HS1.out.keep0 (Upd.refl _ _).drew) (by omega) (mem_at 0 rfl)).mono ?_
  rintro e w1 hE
  obtain ⟨na, rfl, hr, hS, hF⟩ := hE.ex
  have HS := Lib.hid (And.intro hS ((Fro.of0 (n0 := n0) (Upd.refl _ wB).drew).trans hF))
  clear hE hS hF hr HS1 HK
  go_wp2_with fail
  refine (one_ok na _).mono ?_
  rintro e w2 ⟨rfl, rfl⟩
  go_wp2_with fail
  refine (not_ses HS.out.1 (by omega) (mem_at 2 rfl)).mono ?_
  rintro e w1 hE
  obtain ⟨nb, rfl, hr, hS, hF⟩ := hE.ex
  have HS2 := Lib.hid (And.intro hS (HS.out.2.trans hF))
  clear hE hS hF hr HS
  have HS := HS2
  clear HS2
  go_wp2_with fail
  refine (one_ok nb _).mono ?_
  rintro e w2 ⟨rfl, rfl⟩
  have HB : Hid (Base5 [(nb, fun y => !B y), (na, fun y => !A y), (a, A), (b, B), (c, C), (0, fun _ => false), (1, fun _ => true)] a b c na nb A B C) := ⟨mem_at 2 rfl, mem_at 3 rfl, mem_at 4 rfl, mem_at 1 rfl, mem_at 0 rfl⟩
  have HZ : Hid ((0, fun _ => false) ∈ ([(nb, fun y => !B y), (na, fun y => !A y), (a, A), (b, B), (c, C), (0, fun _ => false), (1, fun _ => true)] : List (Nat × ((Nat → Bool) → Bool)))) := mem_at 5 rfl
  generalize ([(nb, fun y => !B y), (na, fun y => !A y), (a, A), (b, B), (c, C), (0, fun _ => false), (1, fun _ => true)] : List (Nat × ((Nat → Bool) → Bool))) = L0 at HS HB HZ
  by_cases h15 : op ≤ 15
  rotate_left
  · have hg : (15 : Int) < (op : Int) := by omega
    have hd : decide ((15 : Int) < (op : Int)) = true := by simp; omega
    go_wp2_with fail
    refine (binary_arg b0 op a b _ (by omega)).mono ?_
    rintro e w3 ⟨rfl, hu⟩
    have HU3 := Lib.hid hu
    clear hu
    go_wp2_with fail
    go_ret
    exact ⟨rfl, (Fro.upd HUB.out HLE.out HS.out.2).trans HU3.out⟩
  have hg : ¬ (15 : Int) < (op : Int) := by omega
  have hd : decide ((15 : Int) < (op : Int)) = false := by simp; omega
  have HT := Lib.hid (op_bit0 op h15)
  have HOP : Hid (op ≤ 15) := Lib.hid h15
  clear h15
  go_wp2_with fail
  go_loopg [22, 76] 4 (fun gg s22 s76 wr => ∃ (i W cnt : Nat) (F : (Nat → Bool) → Bool) (L : List (Nat × ((Nat → Bool) → Bool))), 4 - i = gg ∧ i ≤ 4 ∧ s22 = .int .u32 W ∧ s76 = .int .i64 i ∧ SesW wr b0 n0 L cnt ∧ cnt ≤ 12 + 2 * i ∧ Base5 L a b c na nb A B C ∧ (W, F) ∈ L ∧ (∀ y, F y = opB (op % 2 ^ i) (A y) (B y)) ∧ Fro n0 wB wr)
  case atStart => exact ⟨0, 0, 12, fun _ => false, L0, rfl, by omega, rfl, rfl, HS.out.1, by omega, HB.out, HZ.out, fun y => by rw [Nat.pow_zero, Nat.mod_one]; cases A y <;> cases B y <;> rfl, HS.out.2⟩
  case round =>
    obtain ⟨i, W, cnt, F, L, hgg, hi, rfl, rfl, hS, hcn, hB, hW, hF, hFr⟩ := hrel
    have HSS := Lib.hid (And.intro hS hFr)
    have HBB := Lib.hid (And.intro hB (And.intro hW hF))
    clear hS hFr hB hW hF HS HB HZ
    have h5 : i = 0 ∨ i = 1 ∨ i = 2 ∨ i = 3 ∨ i = 4 := by omega
    rcases h5 with rfl | rfl | rfl | rfl | rfl
    · have ht := HT.out.1
      cases hb : op.testBit 0 with
      | false =>
        rw [hb] at ht
        simp only [Bool.not_false] at ht
        go_wp2_with fail
        go_roundg 3
        case measure => omega
        case rel => exact ⟨1, W, cnt, F, L, rfl, by omega, rfl, rfl, HSS.out.1, by omega, HBB.out.1, HBB.out.2.1, fun y => by rw [HBB.out.2.2, ← opB_no op 0 HOP.out (by omega) hb], HSS.out.2⟩
      | true =>
        rw [hb] at ht
        simp only [Bool.not_true] at ht
        go_wp2_with fail
        refine (and_ses HSS.out.1 (by omega) HBB.out.1.2.2.2.1 HBB.out.1.2.2.2.2).mono ?_
        rintro e w3 hE
        obtain ⟨r1, rfl, hr, hS, hF⟩ := hE.ex
        have HS1 := Lib.hid (And.intro hS (HSS.out.2.trans hF))
        clear hE hS hF hr
        go_wp2_with fail
        refine (one_ok r1 _).mono ?_
        rintro e w4 ⟨rfl, rfl⟩
        go_wp2_with fail
        refine (or_ses HS1.out.1 (by omega) (List.mem_cons_of_mem _ HBB.out.2.1) (mem_at 0 rfl)).mono ?_
        rintro e w5 hE
        obtain ⟨r2, rfl, hr, hS, hF⟩ := hE.ex
        have HS2 := Lib.hid (And.intro hS (HS1.out.2.trans hF))
        clear hE hS hF hr
        go_wp2_with fail
        refine (one_ok r2 _).mono ?_
        rintro e w6 ⟨rfl, rfl⟩
        go_wp2_with fail
        go_roundg 3
        case measure => omega
        case rel => exact ⟨1, r2, cnt + 2, _, _, rfl, by omega, rfl, rfl, HS2.out.1, by omega, (HBB.out.1.cons _).cons _, mem_at 0 rfl, fun y => by rw [opB_yes op 0 HOP.out (by omega) hb, ← HBB.out.2.2]; rfl, HS2.out.2⟩
    · have ht := HT.out.2.1
      cases hb : op.testBit 1 with
      | false =>
        rw [hb] at ht
        simp only [Bool.not_false] at ht
        go_wp2_with fail
        go_roundg 2
        case measure => omega
        case rel => exact ⟨2, W, cnt, F, L, rfl, by omega, rfl, rfl, HSS.out.1, by omega, HBB.out.1, HBB.out.2.1, fun y => by rw [HBB.out.2.2, ← opB_no op 1 HOP.out (by omega) hb], HSS.out.2⟩
      | true =>
        rw [hb] at ht
        simp only [Bool.not_true] at ht
        go_wp2_with fail
        refine (and_ses HSS.out.1 (by omega) HBB.out.1.2.2.2.1 HBB.out.1.2.1).mono ?_
        rintro e w3 hE
        obtain ⟨r1, rfl, hr, hS, hF⟩ := hE.ex
        have HS1 := Lib.hid (And.intro hS (HSS.out.2.trans hF))
        clear hE hS hF hr
        go_wp2_with fail
        refine (one_ok r1 _).mono ?_
        rintro e w4 ⟨rfl, rfl⟩
        go_wp2_with fail
        refine (or_ses HS1.out.1 (by omega) (List.mem_cons_of_mem _ HBB.out.2.1) (mem_at 0 rfl)).mono ?_
        rintro e w5 hE
        obtain ⟨r2, rfl, hr, hS, hF⟩ := hE.ex
        have HS2 := Lib.hid (And.intro hS (HS1.out.2.trans hF))
        clear hE hS hF hr
        go_wp2_with fail
        refine (one_ok r2 _).mono ?_
        rintro e w6 ⟨rfl, rfl⟩
        go_wp2_with fail
        go_roundg 2
        case measure => omega
        case rel => exact ⟨2, r2, cnt + 2, _, _, rfl, by omega, rfl, rfl, HS2.out.1, by omega, (HBB.out.1.cons _).cons _, mem_at 0 rfl, fun y => by rw [opB_yes op 1 HOP.out (by omega) hb, ← HBB.out.2.2]; rfl, HS2.out.2⟩
    · have ht := HT.out.2.2.1
      cases hb : op.testBit 2 with
      | false =>
        rw [hb] at ht
        simp only [Bool.not_false] at ht
        go_wp2_with fail
        go_roundg 1
        case measure => omega
        case rel => exact ⟨3, W, cnt, F, L, rfl, by omega, rfl, rfl, HSS.out.1, by omega, HBB.out.1, HBB.out.2.1, fun y => by rw [HBB.out.2.2, ← opB_no op 2 HOP.out (by omega) hb], HSS.out.2⟩
      | true =>
        rw [hb] at ht
        simp only [Bool.not_true] at ht
        go_wp2_with fail
        refine (and_ses HSS.out.1 (by omega) HBB.out.1.1 HBB.out.1.2.2.2.2).mono ?_
        rintro e w3 hE
        obtain ⟨r1, rfl, hr, hS, hF⟩ := hE.ex
        have HS1 := Lib.hid (And.intro hS (HSS.out.2.trans hF))
        clear hE hS hF hr
        go_wp2_with fail
        refine (one_ok r1 _).mono ?_
        rintro e w4 ⟨rfl, rfl⟩
        go_wp2_with fail
        refine (or_ses HS1.out.1 (by omega) (List.mem_cons_of_mem _ HBB.out.2.1) (mem_at 0 rfl)).mono ?_
        rintro e w5 hE
        obtain ⟨r2, rfl, hr, hS, hF⟩ := hE.ex
        have HS2 := Lib.hid (And.intro hS (HS1.out.2.trans hF))
        clear hE hS hF hr
        go_wp2_with fail
        refine (one_ok r2 _).mono ?_
        rintro e w6 ⟨rfl, rfl⟩
        go_wp2_with fail
        go_roundg 1
        case measure => omega
        case rel => exact ⟨3, r2, cnt + 2, _, _, rfl, by omega, rfl, rfl, HS2.out.1, by omega, (HBB.out.1.cons _).cons _, mem_at 0 rfl, fun y => by rw [opB_yes op 2 HOP.out (by omega) hb, ← HBB.out.2.2]; rfl, HS2.out.2⟩
    · have ht := HT.out.2.2.2
      cases hb : op.testBit 3 with
      | false =>
        rw [hb] at ht
        simp only [Bool.not_false] at ht
        go_wp2_with fail
        go_roundg 0
        case measure => omega
        case rel => exact ⟨4, W, cnt, F, L, rfl, by omega, rfl, rfl, HSS.out.1, by omega, HBB.out.1, HBB.out.2.1, fun y => by rw [HBB.out.2.2, ← opB_no op 3 HOP.out (by omega) hb], HSS.out.2⟩
      | true =>
        rw [hb] at ht
        simp only [Bool.not_true] at ht
        go_wp2_with fail
        refine (and_ses HSS.out.1 (by omega) HBB.out.1.1 HBB.out.1.2.1).mono ?_
        rintro e w3 hE
        obtain ⟨r1, rfl, hr, hS, hF⟩ := hE.ex
        have HS1 := Lib.hid (And.intro hS (HSS.out.2.trans hF))
        clear hE hS hF hr
        go_wp2_with fail
        refine (one_ok r1 _).mono ?_
        rintro e w4 ⟨rfl, rfl⟩
        go_wp2_with fail
        refine (or_ses HS1.out.1 (by omega) (List.mem_cons_of_mem _ HBB.out.2.1) (mem_at 0 rfl)).mono ?_
        rintro e w5 hE
        obtain ⟨r2, rfl, hr, hS, hF⟩ := hE.ex
        have HS2 := Lib.hid (And.intro hS (HS1.out.2.trans hF))
        clear hE hS hF hr
        go_wp2_with fail
        refine (one_ok r2 _).mono ?_
        rintro e w6 ⟨rfl, rfl⟩
        go_wp2_with fail
        go_roundg 0
        case measure => omega
        case rel => exact ⟨4, r2, cnt + 2, _, _, rfl, by omega, rfl, rfl, HS2.out.1, by omega, (HBB.out.1.cons _).cons _, mem_at 0 rfl, fun y => by rw [opB_yes op 3 HOP.out (by omega) hb, ← HBB.out.2.2]; rfl, HS2.out.2⟩
    · have hof : op % 2 ^ 4 = op := Nat.mod_eq_of_lt (by have := HOP.out; omega)
      go_wp2_with fail
      refine (binary_ses HSS.out.1 (by omega) HOP.out HBB.out.1.1 HBB.out.1.2.1).mono ?_
      rintro e w3 hE
      obtain ⟨r1, rfl, hr, hS, hF⟩ := hE.ex
      have e : W = r1 := hS.eq (List.mem_cons_of_mem _ HBB.out.2.1) (mem_at 0 rfl) (fun y => by rw [HBB.out.2.2, hof])
      subst e
      have HS1 := Lib.hid (And.intro hS (HSS.out.2.trans hF))
      clear hE hS hF hr
      go_wp2_with fail
      refine (one_ok W _).mono ?_
      rintro e w4 ⟨rfl, rfl⟩
      go_wp2_with fail
      refine (ite_ses HS1.out.1 (by omega) (HBB.out.1.cons _).1 (HBB.out.1.cons _).2.1 (HBB.out.1.cons _).2.2.1).mono ?_
      rintro e w5 hE
      obtain ⟨r2, rfl, hr, hS, hF⟩ := hE.ex
      have HS2 := Lib.hid (And.intro hS (HS1.out.2.trans hF))
      clear hE hS hF hr
      go_wp2_with fail
      refine (one_ok r2 _).mono ?_
      rintro e w6 ⟨rfl, rfl⟩
      go_wp2_with fail
      refine (and_ses HS2.out.1 (by omega) ((HBB.out.1.cons _).cons _).1 ((HBB.out.1.cons _).cons _).2.1).mono ?_
      rintro e w7 hE
      obtain ⟨r3, rfl, hr, hS, hF⟩ := hE.ex
      have HS3 := Lib.hid (And.intro hS (HS2.out.2.trans hF))
      clear hE hS hF hr
      go_wp2_with fail
      refine (one_ok r3 _).mono ?_
      rintro e w8 ⟨rfl, rfl⟩
      go_wp2_with fail
      refine (and_ses HS3.out.1 (by omega) (((HBB.out.1.cons _).cons _).cons _).2.2.2.1 (((HBB.out.1.cons _).cons _).cons _).2.2.1).mono ?_
      rintro e w9 hE
      obtain ⟨r4, rfl, hr, hS, hF⟩ := hE.ex
      have HS4 := Lib.hid (And.intro hS (HS3.out.2.trans hF))
      clear hE hS hF hr
      go_wp2_with fail
      refine (one_ok r4 _).mono ?_
      rintro e w10 ⟨rfl, rfl⟩
      go_wp2_with fail
      refine (or_ses HS4.out.1 (by omega) (mem_at 1 rfl) (mem_at 0 rfl)).mono ?_
      rintro e w11 hE
      obtain ⟨r5, rfl, hr, hS, hF⟩ := hE.ex
      have e : r2 = r5 := hS.eq (mem_at 3 rfl) (mem_at 0 rfl) (fun y => by (try dsimp only); cases A y <;> cases B y <;> cases C y <;> rfl)
      subst e
      have HS5 := Lib.hid (And.intro hS (HS4.out.2.trans hF))
      clear hE hS hF hr
      go_wp2_with fail
      refine (one_ok r2 _).mono ?_
      rintro e w12 ⟨rfl, rfl⟩
      go_wp2_with fail
      go_ret
      exact ⟨rfl, Fro.upd HUB.out HLE.out HS5.out.2⟩
theorem applySixteen_u8 (x : Int) (hx : (Lit.int .u8 x).wf = true) (n room i1 i2 i3 : Int) (la wa : Option Addr) (ln lc wn wk : Nat) (Ls Ws : List Int) (w : World) (hL : RowOf w .i64 la ln Ls) (hW : RowOf w .u64 wa wn Ws) (hU : ∀ x, x ∈ Ws → U64 x) :
    Calls Tryz.prog 4 #[.agg #[.int .i64 n, .int .i64 room, .slice la ln lc, .slice wa wn wk], .int .i64 i1, .int .i64 i2, .int .i64 i3, .int .u8 x] w fun e w' => e = .returned (.bool true) ∧ Upd [] w w' := by
  simp only [Lit.wf, Bool.and_eq_true, decide_eq_true_eq] at hx
  have e1 : IntKind.u8.min = 0 := rfl
  have e2 : IntKind.u8.max = 255 := rfl
  obtain ⟨op, rfl⟩ := Int.eq_ofNat_of_zero_le (show 0 ≤ x by omega)
  exact applySixteen_walk op (by omega) n room i1 i2 i3 la wa ln lc wn wk Ls Ws w hL hW hU
end Go.Proofs.YtnenhecnkidnpaaGreat

