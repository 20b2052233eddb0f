/- The nodes of three functions. -/
import Derived.Test.YtnenhecnkidnpaaAE
namespace Go.Proofs.Ytnenhecnkidnpaa
open Go.RowKit Go.Maps Go.ChangeMaps Go.WideShapes

theorem Try.infoNode : (Try.prog.info? 55).map (fun i => (i.zero, i.size, i.bytes)) = some (some (.agg #[.int .i64 0, .int .u32 0, .int .u32 0]), 3, 16) := by kernel_rfl

def PlaceV.node (p : PlaceV) : List Value := [.int .i64 p.var, .int .u32 p.lo, .int .u32 p.hi]
def flatNodes (l : List PlaceV) : List Value := l.flatMap PlaceV.node

theorem flatNodes_len (l : List PlaceV) : (flatNodes l).length = l.length * 3 := by
  induction l with
  | nil => rfl
  | cons p l ih =>
    have e : flatNodes (p :: l) = p.node ++ flatNodes l := rfl
    rw [e, List.length_append, ih]; simp [PlaceV.node]; omega

theorem flatNodes_snoc (l : List PlaceV) (p : PlaceV) : flatNodes (l ++ [p]) = flatNodes l ++ p.node := by simp [flatNodes]

/-- the loop of nodes, in memory -/
structure NdR (w : World) (v : Value) (l : List PlaceV) (wr : World) : Prop where
  row : wr.ownsRow w.heap.size 55 3 v l.length (flatNodes l)
  up : Upd [] w wr

set_option maxRecDepth 100000 in
set_option maxHeartbeats 1600000 in
theorem wnodes_spec (wb b f0 f1 f2 : Nat) (K : KV) (T : List DM) (q : KPtr) (M : List Nat) (lvv mv : Value) (p0 p1 p2 : PlaceV) (w : World) (h : WK w wb b K T q M lvv mv)
    (h0 : K.A.list[f0]? = some p0 ∧ p0.taken = true ∧ f0 ≤ 4294967295) (h1 : K.A.list[f1]? = some p1 ∧ p1.taken = true ∧ f1 ≤ 4294967295) (h2 : K.A.list[f2]? = some p2 ∧ p2.taken = true ∧ f2 ≤ 4294967295) :
    Calls Try.prog 57 #[.pointer (some ⟨wb, 0, none⟩), .agg #[.int .u32 f0, .int .u32 f1, .int .u32 f2]] w fun e w' =>
      ∃ v : Value, e = .returned v ∧ NdR w v [p0, p1, p2] w' := by
  have HW := Lib.hid h
  have H0 := Lib.hid h0
  have H1 := Lib.hid h1
  have H2 := Lib.hid h2
  obtain ⟨i, hi0, hz0, hz1', hz2⟩ := info_parts Try.infoNode
  have HI := Lib.hid hi0
  have HZ := Lib.hid hz0
  have HZ1 := Lib.hid hz1'
  have HZ2 := Lib.hid hz2
  have HN0 : Hid (∀ wr, Upd [] w wr → WK wr wb b K T q M lvv mv) := fun wr u => h.upd u (by simp)
  have hx0 : ∀ w, (Instr.index 82 (.agg #[.int .u32 f0, .int .u32 f1, .int .u32 f2]) (.int .i64 0)).run Try.prog w = .ok (.int .u32 f0) w := fun _ => by kernel_rfl
  have hx1 : ∀ w, (Instr.index 82 (.agg #[.int .u32 f0, .int .u32 f1, .int .u32 f2]) (.int .i64 1)).run Try.prog w = .ok (.int .u32 f1) w := fun _ => by kernel_rfl
  have hx2 : ∀ w, (Instr.index 82 (.agg #[.int .u32 f0, .int .u32 f1, .int .u32 f2]) (.int .i64 2)).run Try.prog w = .ok (.int .u32 f2) w := fun _ => by kernel_rfl
  clear h h0 h1 h2 hi0 hz0 hz1' hz2
  go_enter Try.func57, Try.ntmps57
  go_wp2_with fail
  go_loopg [5, 11] 3 (fun g s5 s11 wr => (g = 3 ∧ s11 = .int .i64 0 ∧ NdR w s5 [] wr) ∨ (g = 2 ∧ s11 = .int .i64 1 ∧ NdR w s5 [p0] wr) ∨ (g = 1 ∧ s11 = .int .i64 2 ∧ NdR w s5 [p0, p1] wr) ∨ (g = 0 ∧ s11 = .int .i64 3 ∧ NdR w s5 [p0, p1, p2] wr))
  case atStart =>
    exact .inl ⟨rfl, rfl, World.ownsRow_nil _ _ _ _, (Upd.refl [] w).alloc _⟩
  case round =>
    rcases hrel with ⟨rfl, rfl, hR⟩ | ⟨rfl, rfl, hR⟩ | ⟨rfl, rfl, hR⟩ | ⟨rfl, rfl, hR⟩
    · have HR := Lib.hid hR
      have c0 : wr.cell? ⟨wb, 0, none⟩ = some (.pointer (some ⟨b, 0, none⟩)) := cell_at (HN0.out _ hR.up).wk.blk rfl
      clear hR
      go_wp2_with fail
      refine (nodeof_yes b f0 K T q p0 _ (HN0.out _ HR.out.up).ker.mem H0.out.2.2 H0.out.1 H0.out.2.1).mono ?_
      rintro e w1 ⟨rfl, hu⟩
      have hbx := heap_alloc_new w1 (.cells #[.int .i64 p0.var, .int .u32 p0.lo, .int .u32 p0.hi] 55 (0, 0))
      have b0 : (w1.alloc (.cells #[.int .i64 p0.var, .int .u32 p0.lo, .int .u32 p0.hi] 55 (0, 0))).cell? ⟨w1.heap.size, 0, none⟩ = some (.int .i64 p0.var) := cell_at hbx rfl
      have b1 : (w1.alloc (.cells #[.int .i64 p0.var, .int .u32 p0.lo, .int .u32 p0.hi] 55 (0, 0))).cell? ⟨w1.heap.size, 1, none⟩ = some (.int .u32 p0.lo) := cell_at hbx rfl
      have b2 : (w1.alloc (.cells #[.int .i64 p0.var, .int .u32 p0.lo, .int .u32 p0.hi] 55 (0, 0))).cell? ⟨w1.heap.size, 2, none⟩ = some (.int .u32 p0.hi) := cell_at hbx rfl
      have HU := Lib.hid hu
      have hrow := row_keep HR.out.row fun k hk => hu.block k (HR.out.row.lt k hk).2 (by simp)
      obtain ⟨fa, fc, hv, _⟩ := row_nil_len hrow
      have HV := Lib.hid hv
      subst hv
      have HROW := Lib.hid (hrow.alloc (.cells #[.int .i64 p0.var, .int .u32 p0.lo, .int .u32 p0.hi] 55 (0, 0)))
      have hsz : w.heap.size ≤ w1.heap.size := (HR.out.up.trans hu).size
      have HC2 : Hid (∀ u, u ∈ p0.node → u.oneCell' = true) := by intro u hu; simp [PlaceV.node] at hu; rcases hu with rfl | rfl | rfl <;> rfl
      have hbs : w.heap.size ≤ ((w1.alloc (.cells #[.int .i64 p0.var, .int .u32 p0.lo, .int .u32 p0.hi] 55 (0, 0))).alloc (.cells #[.int .i64 p0.var, .int .u32 p0.lo, .int .u32 p0.hi] 55 (0, 0))).heap.size := by rw [World.size_alloc, World.size_alloc]; omega
      clear hu hbx hrow
      go_wp2_with (at_builtin; go_must (refine wpList_append_lies _ rfl (.tmp 23) (.tmp 25) 108 rfl w.heap.size 55 i _ 3 16 Try.underlying108 HI.out HZ.out HZ1.out HZ2.out (by rfl) (by decide) _ 0 (flatNodes []) rfl (HROW.out.alloc _) ⟨w1.heap.size + 1, 0, none⟩ 1 1 p0.node rfl rfl ?c1 HC2.out (by omega) (by unfold maxLen; omega) (by omega) hbs _ rfl ?_))
      case c1 =>
        have e := heap_alloc_new (w1.alloc (.cells #[.int .i64 p0.var, .int .u32 p0.lo, .int .u32 p0.hi] 55 (0, 0))) (.cells #[.int .i64 p0.var, .int .u32 p0.lo, .int .u32 p0.hi] 55 (0, 0))
        rw [World.size_alloc] at e
        exact World.news_of_block e
      intro g5 cap w5 hown hgr hat hlt2
      have HE : Hid (NdR w (.slice (some ⟨g5, 0, none⟩) 1 cap) ([] ++ [p0]) w5) := by
        refine ⟨?_, ?_⟩
        · rw [flatNodes_snoc]; exact hown
        · refine (((HR.out.up.trans HU.out).alloc _).alloc _).grown hgr fun k hk => .inr ?_
          exact (HROW.out.lt k hk).1
      clear hown hgr hat hlt2
      go_wp2_with fail
      go_roundg (2 : Nat)
      case measure => decide
      case rel => exact .inr (.inl ⟨rfl, rfl, HE.out⟩)
    · have HR := Lib.hid hR
      have c0 : wr.cell? ⟨wb, 0, none⟩ = some (.pointer (some ⟨b, 0, none⟩)) := cell_at (HN0.out _ hR.up).wk.blk rfl
      clear hR
      go_wp2_with fail
      refine (nodeof_yes b f1 K T q p1 _ (HN0.out _ HR.out.up).ker.mem H1.out.2.2 H1.out.1 H1.out.2.1).mono ?_
      rintro e w1 ⟨rfl, hu⟩
      have hbx := heap_alloc_new w1 (.cells #[.int .i64 p1.var, .int .u32 p1.lo, .int .u32 p1.hi] 55 (0, 0))
      have b0 : (w1.alloc (.cells #[.int .i64 p1.var, .int .u32 p1.lo, .int .u32 p1.hi] 55 (0, 0))).cell? ⟨w1.heap.size, 0, none⟩ = some (.int .i64 p1.var) := cell_at hbx rfl
      have b1 : (w1.alloc (.cells #[.int .i64 p1.var, .int .u32 p1.lo, .int .u32 p1.hi] 55 (0, 0))).cell? ⟨w1.heap.size, 1, none⟩ = some (.int .u32 p1.lo) := cell_at hbx rfl
      have b2 : (w1.alloc (.cells #[.int .i64 p1.var, .int .u32 p1.lo, .int .u32 p1.hi] 55 (0, 0))).cell? ⟨w1.heap.size, 2, none⟩ = some (.int .u32 p1.hi) := cell_at hbx rfl
      have HU := Lib.hid hu
      have hrow := row_keep HR.out.row fun k hk => hu.block k (HR.out.row.lt k hk).2 (by simp)
      obtain ⟨fa, fc, hv, _⟩ := row_nil_len hrow
      have HV := Lib.hid hv
      subst hv
      have HROW := Lib.hid (hrow.alloc (.cells #[.int .i64 p1.var, .int .u32 p1.lo, .int .u32 p1.hi] 55 (0, 0)))
      have hsz : w.heap.size ≤ w1.heap.size := (HR.out.up.trans hu).size
      have HC2 : Hid (∀ u, u ∈ p1.node → u.oneCell' = true) := by intro u hu; simp [PlaceV.node] at hu; rcases hu with rfl | rfl | rfl <;> rfl
      have hbs : w.heap.size ≤ ((w1.alloc (.cells #[.int .i64 p1.var, .int .u32 p1.lo, .int .u32 p1.hi] 55 (0, 0))).alloc (.cells #[.int .i64 p1.var, .int .u32 p1.lo, .int .u32 p1.hi] 55 (0, 0))).heap.size := by rw [World.size_alloc, World.size_alloc]; omega
      clear hu hbx hrow
      go_wp2_with (at_builtin; go_must (refine wpList_append_lies _ rfl (.tmp 23) (.tmp 25) 108 rfl w.heap.size 55 i _ 3 16 Try.underlying108 HI.out HZ.out HZ1.out HZ2.out (by rfl) (by decide) _ 1 (flatNodes [p0]) rfl (HROW.out.alloc _) ⟨w1.heap.size + 1, 0, none⟩ 1 1 p1.node rfl rfl ?c1 HC2.out (by omega) (by unfold maxLen; omega) (by omega) hbs _ rfl ?_))
      case c1 =>
        have e := heap_alloc_new (w1.alloc (.cells #[.int .i64 p1.var, .int .u32 p1.lo, .int .u32 p1.hi] 55 (0, 0))) (.cells #[.int .i64 p1.var, .int .u32 p1.lo, .int .u32 p1.hi] 55 (0, 0))
        rw [World.size_alloc] at e
        exact World.news_of_block e
      intro g5 cap w5 hown hgr hat hlt2
      have HE : Hid (NdR w (.slice (some ⟨g5, 0, none⟩) 2 cap) ([p0] ++ [p1]) w5) := by
        refine ⟨?_, ?_⟩
        · rw [flatNodes_snoc]; exact hown
        · refine (((HR.out.up.trans HU.out).alloc _).alloc _).grown hgr fun k hk => .inr ?_
          exact (HROW.out.lt k hk).1
      clear hown hgr hat hlt2
      go_wp2_with fail
      go_roundg (1 : Nat)
      case measure => decide
      case rel => exact .inr (.inr (.inl ⟨rfl, rfl, HE.out⟩))
    · have HR := Lib.hid hR
      have c0 : wr.cell? ⟨wb, 0, none⟩ = some (.pointer (some ⟨b, 0, none⟩)) := cell_at (HN0.out _ hR.up).wk.blk rfl
      clear hR
      go_wp2_with fail
      refine (nodeof_yes b f2 K T q p2 _ (HN0.out _ HR.out.up).ker.mem H2.out.2.2 H2.out.1 H2.out.2.1).mono ?_
      rintro e w1 ⟨rfl, hu⟩
      have hbx := heap_alloc_new w1 (.cells #[.int .i64 p2.var, .int .u32 p2.lo, .int .u32 p2.hi] 55 (0, 0))
      have b0 : (w1.alloc (.cells #[.int .i64 p2.var, .int .u32 p2.lo, .int .u32 p2.hi] 55 (0, 0))).cell? ⟨w1.heap.size, 0, none⟩ = some (.int .i64 p2.var) := cell_at hbx rfl
      have b1 : (w1.alloc (.cells #[.int .i64 p2.var, .int .u32 p2.lo, .int .u32 p2.hi] 55 (0, 0))).cell? ⟨w1.heap.size, 1, none⟩ = some (.int .u32 p2.lo) := cell_at hbx rfl
      have b2 : (w1.alloc (.cells #[.int .i64 p2.var, .int .u32 p2.lo, .int .u32 p2.hi] 55 (0, 0))).cell? ⟨w1.heap.size, 2, none⟩ = some (.int .u32 p2.hi) := cell_at hbx rfl
      have HU := Lib.hid hu
      have hrow := row_keep HR.out.row fun k hk => hu.block k (HR.out.row.lt k hk).2 (by simp)
      obtain ⟨fa, fc, hv, _⟩ := row_nil_len hrow
      have HV := Lib.hid hv
      subst hv
      have HROW := Lib.hid (hrow.alloc (.cells #[.int .i64 p2.var, .int .u32 p2.lo, .int .u32 p2.hi] 55 (0, 0)))
      have hsz : w.heap.size ≤ w1.heap.size := (HR.out.up.trans hu).size
      have HC2 : Hid (∀ u, u ∈ p2.node → u.oneCell' = true) := by intro u hu; simp [PlaceV.node] at hu; rcases hu with rfl | rfl | rfl <;> rfl
      have hbs : w.heap.size ≤ ((w1.alloc (.cells #[.int .i64 p2.var, .int .u32 p2.lo, .int .u32 p2.hi] 55 (0, 0))).alloc (.cells #[.int .i64 p2.var, .int .u32 p2.lo, .int .u32 p2.hi] 55 (0, 0))).heap.size := by rw [World.size_alloc, World.size_alloc]; omega
      clear hu hbx hrow
      go_wp2_with (at_builtin; go_must (refine wpList_append_lies _ rfl (.tmp 23) (.tmp 25) 108 rfl w.heap.size 55 i _ 3 16 Try.underlying108 HI.out HZ.out HZ1.out HZ2.out (by rfl) (by decide) _ 2 (flatNodes [p0, p1]) rfl (HROW.out.alloc _) ⟨w1.heap.size + 1, 0, none⟩ 1 1 p2.node rfl rfl ?c1 HC2.out (by omega) (by unfold maxLen; omega) (by omega) hbs _ rfl ?_))
      case c1 =>
        have e := heap_alloc_new (w1.alloc (.cells #[.int .i64 p2.var, .int .u32 p2.lo, .int .u32 p2.hi] 55 (0, 0))) (.cells #[.int .i64 p2.var, .int .u32 p2.lo, .int .u32 p2.hi] 55 (0, 0))
        rw [World.size_alloc] at e
        exact World.news_of_block e
      intro g5 cap w5 hown hgr hat hlt2
      have HE : Hid (NdR w (.slice (some ⟨g5, 0, none⟩) 3 cap) ([p0, p1] ++ [p2]) w5) := by
        refine ⟨?_, ?_⟩
        · rw [flatNodes_snoc]; exact hown
        · refine (((HR.out.up.trans HU.out).alloc _).alloc _).grown hgr fun k hk => .inr ?_
          exact (HROW.out.lt k hk).1
      clear hown hgr hat hlt2
      go_wp2_with fail
      go_roundg (0 : Nat)
      case measure => decide
      case rel => exact .inr (.inr (.inr (⟨rfl, rfl, HE.out⟩)))
    · have HR := Lib.hid hR
      clear hR
      go_wp2_with fail
      go_ret
      exact ⟨_, rfl, HR.out⟩
end Go.Proofs.Ytnenhecnkidnpaa
