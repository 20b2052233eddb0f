/- The kernel's questions ahead of a new node: variable, depth, fits, seek. -/
import Derived.Test.YtnenhecnkidnpaaKX
namespace Go.Proofs.Ytnenhecnkidnpaa
open Go.RowKit Go.Maps Go.ChangeMaps Go.WideShapes

theorem KerMem.levCell {w : World} {b v : Nat} {K : KV} {T : List DM} {q : KPtr} (h : KerMem w b K T q) (hv : v < K.level.length) :
    ∃ g c, q.lv = .slice (some ⟨g, 0, none⟩) K.level.length c ∧ w.cell? ⟨b, 6, none⟩ = some (.slice (some ⟨g, 0, none⟩) K.level.length c) ∧ w.cell? ⟨g, v, none⟩ = some (.int .i64 (K.lev v)) ∧ w.frozen? ⟨g, v, none⟩ = false ∧ g ∈ q.all b := by
  have hu := h.ls
  obtain ⟨g, c, hq, _, _⟩ := hu.form (by omega)
  refine ⟨g, c, hq, by rw [← hq]; exact cell_at h.blk rfl, ?_, ?_, KPtr.mem.2 (.inr (.inr (.inr (.inr (.inr (.inr (.inl (by rw [hq]; rfl))))))))⟩
  · rw [hq] at hu
    refine row_cell hu ?_
    simp [flatN, KV.lev, hv]
  · rw [hq] at hu; exact row_frozen hu v

def KV.isVar (K : KV) (v : Int) : Bool := decide (0 ≤ v ∧ v < K.vars)

set_option maxRecDepth 100000 in
theorem variable_spec (b : Nat) (v : Int) (K : KV) (T : List DM) (q : KPtr) (w : World) (h : KerMem w b K T q) :
    Calls Try.prog 65 #[.pointer (some ⟨b, 0, none⟩), .int .i64 v] w fun e w' => e = .returned (.bool (K.isVar v)) ∧ w' = w := by
  have c4 : w.cell? ⟨b, 4, none⟩ = some (.int .i64 K.vars) := cell_at h.blk rfl
  have HV : Hid (K.isVar v = decide (0 ≤ v ∧ v < K.vars)) := rfl
  clear h
  by_cases h0 : 0 ≤ v
  · go_enter Try.func65, Try.ntmps65
    go_wp2_with fail
    go_ret
    exact ⟨by rw [HV.out]; simp [h0], rfl⟩
  · have hd : decide (0 ≤ v) = false := by simp; omega
    have HN := Lib.hid h0
    clear h0
    go_enter Try.func65, Try.ntmps65
    go_wp2_with fail
    go_ret
    exact ⟨by rw [HV.out]; have := HN.out; simp; omega, rfl⟩

set_option maxRecDepth 100000 in
theorem depth_spec (b r : Nat) (K : KV) (T : List DM) (q : KPtr) (w : World) (h : KerMem w b K T q) (hw : K.Wf []) (ho : K.Ord) (hr : r ≤ 4294967295) (ht : K.A.tk r = true) :
    Calls Try.prog 66 #[.pointer (some ⟨b, 0, none⟩), .int .u32 r] w fun e w' => e = .returned (.int .i64 (K.dep r)) ∧ Upd [] w w' := by
  obtain ⟨p, hp, hpt⟩ := ArenaV.tk_iff.1 ht
  have hll := ho.pm.ll
  have hvs := hw.vs
  have hbl := heap_lt h.blk
  have HP := Lib.hid hp
  have HPT := Lib.hid hpt
  have HM := Lib.hid h
  by_cases h2 : 2 ≤ r
  · obtain ⟨p', v, hp', hpt', hv, hvl, _, _, hd⟩ := hw.node_at h2 ht
    rw [hp] at hp'; cases hp'
    have HV := Lib.hid hv
    have HD := Lib.hid hd
    have hll2 : v < K.level.length := by omega
    clear h hw ho ht hp hpt hpt' hd
    go_enter Try.func66, Try.ntmps66
    go_wp2_with fail
    refine (node_spec b r K T q p w HM.out hr HP.out HPT.out).mono ?_
    rintro e w1 ⟨rfl, hu⟩
    rw [HV.out]
    have m1 := (HM.out.upd hu (by simp)).upd ((Upd.refl [] w1).alloc (.cells #[.int .i64 (v : Int), .int .u32 p.lo, .int .u32 p.hi] 55 (0, 0))) (by simp)
    obtain ⟨gl, cl, _, c6, cv, _, _⟩ := m1.levCell hll2
    have hn := heap_alloc_new w1 (.cells #[.int .i64 (v : Int), .int .u32 p.lo, .int .u32 p.hi] 55 (0, 0))
    have b0 : (w1.alloc (.cells #[.int .i64 (v : Int), .int .u32 p.lo, .int .u32 p.hi] 55 (0, 0))).cell? ⟨w1.heap.size, 0, none⟩ = some (.int .i64 v) := cell_at hn rfl
    have hvi : (v : Int) < (K.level.length : Int) := by omega
    have hls : K.level.length ≤ 64 := by omega
    have HU := Lib.hid hu
    clear hu m1 hn hv
    go_wp2_with fail
    go_quiet (fail)
    go_wp2_with fail
    go_ret
    exact ⟨by rw [HD.out]; rfl, (HU.out.alloc _).drewN _⟩
  · have hd := hw.dep_const (r := r) (by omega)
    have hv : p.var = -1 := by
      match r, h2, hp with
      | 0, _, hp => rw [hw.ok.c0] at hp; cases hp; rfl
      | 1, _, hp => rw [hw.ok.c1] at hp; cases hp; rfl
      | r + 2, h2, _ => omega
    have HD := Lib.hid hd
    have HV := Lib.hid hv
    clear h hw ho ht hp hpt hd hv
    go_enter Try.func66, Try.ntmps66
    go_wp2_with fail
    refine (node_spec b r K T q p w HM.out hr HP.out HPT.out).mono ?_
    rintro e w1 ⟨rfl, hu⟩
    rw [HV.out]
    have m1 := (HM.out.upd hu (by simp)).upd ((Upd.refl [] w1).alloc (.cells #[.int .i64 (-1), .int .u32 p.lo, .int .u32 p.hi] 55 (0, 0))) (by simp)
    have c4 : (w1.alloc (.cells #[.int .i64 (-1), .int .u32 p.lo, .int .u32 p.hi] 55 (0, 0))).cell? ⟨b, 4, none⟩ = some (.int .i64 K.vars) := cell_at m1.blk rfl
    have hn := heap_alloc_new w1 (.cells #[.int .i64 (-1), .int .u32 p.lo, .int .u32 p.hi] 55 (0, 0))
    have b0 : (w1.alloc (.cells #[.int .i64 (-1), .int .u32 p.lo, .int .u32 p.hi] 55 (0, 0))).cell? ⟨w1.heap.size, 0, none⟩ = some (.int .i64 (-1)) := cell_at hn rfl
    have HU := Lib.hid hu
    clear hu m1 hn
    go_wp2_with fail
    go_ret
    exact ⟨by rw [HD.out]; rfl, HU.out.alloc _⟩
end Go.Proofs.Ytnenhecnkidnpaa
