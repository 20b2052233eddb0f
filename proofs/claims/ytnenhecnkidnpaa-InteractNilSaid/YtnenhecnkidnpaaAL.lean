/- The closure that ends an operation, as it is deferred. -/
import Derived.Test.YtnenhecnkidnpaaAJ
import Derived.Defers
namespace Go.Proofs.Ytnenhecnkidnpaa
open Go.RowKit Go.Maps Go.ChangeMaps Go.WideShapes

/-- what the kernel is at the end of an operation -/
structure EndX (K0 K : KV) (M : List Nat) (r : Nat) (code : Int) (K' : KV) : Prop where
  ext : K'.Ext K
  hd : ∀ x, K'.hold x = K0.hold x + (if x = r ∧ decide (2 ≤ r ∧ code = 0) = true ∧ r ∈ M then 1 else 0)
  tr : M ≠ [] → K'.trail = []
  tc : code = 0 → r < 2 → K'.trail = []
  nil : M = [] → ¬ (code = 0 ∧ r < 2) → K' = K

structure EndY (b : Nat) (K0 K : KV) (q : KPtr) (M : List Nat) (r : Nat) (code : Int) (F : List Nat) (w w' : World) : Prop where
  ex : ∃ (K' : KV) (T' : List DM) (q' : KPtr), KerIn w' b K' T' q' ∧ Upd F w w' ∧ Sub (q.all b) w (q'.all b) ∧ EndX K0 K M r code K'

theorem EndP.y {wb b r : Nat} {code : Int} {K0 K : KV} {q : KPtr} {M : List Nat} {lvv mv : Value} {w w1 : World} (h : EndP wb b r code K0 K q M lvv mv w w1) {cr ce : Nat} (hcr : cr < w.heap.size ∧ cr ∉ wkF wb b q lvv mv) (hce : ce < w.heap.size ∧ ce ∉ wkF wb b q lvv mv) (u v : Value) :
    EndY b K0 K q M r code (cr :: ce :: wkF wb b q lvv mv) w ((w1.setCell ⟨cr, 0, none⟩ u).setCell ⟨ce, 0, none⟩ v) := by
  obtain ⟨K', T', q', hk, hu, hs, e1, e2, e3, e4, e5⟩ := h.ex
  have out : ∀ c, c < w.heap.size ∧ c ∉ wkF wb b q lvv mv → c ∉ q'.all b := fun c hc hm => by
    rcases hs c hm with h | h
    · exact hc.2 (List.mem_append.2 (.inl h))
    · omega
  have h1 : Upd [cr, ce] w1 ((w1.setCell ⟨cr, 0, none⟩ u).setCell ⟨ce, 0, none⟩ v) := ((Upd.refl _ w1).setCell (p := ⟨cr, 0, none⟩) (.inl (by simp)) _).setCell (p := ⟨ce, 0, none⟩) (.inl (by simp)) _
  refine ⟨K', T', q', hk.upd h1 (fun k hm hc => ?_), (hu.mono (fun x hx => by simp [hx])).then h1 (fun x hx => .inl ?_), hs, e1, e2, e3, e4, e5⟩
  · simp at hc
    rcases hc with rfl | rfl
    · exact out _ hcr hm
    · exact out _ hce hm
  · simp at hx
    rcases hx with rfl | rfl <;> simp

set_option maxRecDepth 100000 in
set_option maxHeartbeats 800000 in
theorem run1_spec (wb b cw cr ce r : Nat) (code : Int) (K0 K : KV) (T : List DM) (q : KPtr) (M : List Nat) (lvv mv : Value) (u : FrameMode) (w : World) (h : WK w wb b K T q M lvv mv) (hM : M.length ≤ 1099511627776) (hr : r ≤ 4294967295) (hM32 : ∀ x, x ∈ M → x ≤ 4294967295)
    (hh : ∀ x, K.hold x = K0.hold x + M.count x) (htr : M ≠ [] → K.trail = [])
    (bw : w.heap[cw]? = some (.cells #[.pointer (some ⟨wb, 0, none⟩)] 77 (0, 0))) (br : w.heap[cr]? = some (.cells #[.int .u32 r] 27 (0, 0))) (be : w.heap[ce]? = some (.cells #[.int .i64 code] 28 (0, 0)))
    (hcr : cr ∉ wkF wb b q lvv mv) (hce : ce ∉ wkF wb b q lvv mv) (hne : cr ≠ ce) :
    CallsD Try.prog 54 #[.pointer (some ⟨cw, 0, none⟩), .pointer (some ⟨cr, 0, none⟩), .pointer (some ⟨ce, 0, none⟩)] u w fun e u' w' => u' = u ∧ (e = .returned (.tuple #[]) ∧
      w'.cell? ⟨cr, 0, none⟩ = some (.int .u32 (endR M r code).1) ∧ w'.cell? ⟨ce, 0, none⟩ = some (.int .i64 (endR M r code).2) ∧ EndY b K0 K q M r code (cr :: ce :: wkF wb b q lvv mv) w w') := by
  have HW := Lib.hid h
  have HX := Lib.hid (And.intro hM (And.intro hr (And.intro hM32 (And.intro hh htr))))
  have x0 := cell_at (j := 0) bw rfl
  have x1 := cell_at (j := 0) br rfl
  have x2 := cell_at (j := 0) be rfl
  have HB := Lib.hid (And.intro br be)
  have HN := Lib.hid (And.intro hcr hce)
  clear h hM hM32 hh htr bw br be hcr hce hr
  go_enter_d Try.func54, Try.ntmps54
  go_wp2_with fail
  refine (wend_spec wb b r code K0 K T q M lvv mv w HW.out HX.out.1 HX.out.2.1 HX.out.2.2.1 HX.out.2.2.2.1 HX.out.2.2.2.2).mono ?_
  rintro e w1 ⟨rfl, hE⟩
  obtain ⟨K', T', q', hk, hu, hs, _⟩ := hE.ex
  have hbr := (hu.block _ (heap_lt HB.out.1) HN.out.1).trans HB.out.1
  have hbe := (hu.block _ (heap_lt HB.out.2) HN.out.2).trans HB.out.2
  have z1 := cell_at (j := 0) hbr rfl
  have z2 := cell_at (j := 0) hbe rfl
  have f1 := frozen_at 0 hbr
  have f2 := frozen_at 0 hbe
  have HY := Lib.hid (hE.y ⟨heap_lt HB.out.1, HN.out.1⟩ ⟨heap_lt HB.out.2, HN.out.2⟩ (.int .u32 (endR M r code).1) (.int .i64 (endR M r code).2))
  have HC : Hid ((((w1.setCell ⟨cr, 0, none⟩ (.int .u32 (endR M r code).1)).setCell ⟨ce, 0, none⟩ (.int .i64 (endR M r code).2)).cell? ⟨cr, 0, none⟩ = some (.int .u32 (endR M r code).1)) ∧
      (((w1.setCell ⟨cr, 0, none⟩ (.int .u32 (endR M r code).1)).setCell ⟨ce, 0, none⟩ (.int .i64 (endR M r code).2)).cell? ⟨ce, 0, none⟩ = some (.int .i64 (endR M r code).2))) := by
    have e1 : ((w1.setCell ⟨cr, 0, none⟩ (.int .u32 (endR M r code).1)).setCell ⟨ce, 0, none⟩ (.int .i64 (endR M r code).2)).heap[cr]? = (w1.setCell ⟨cr, 0, none⟩ (.int .u32 (endR M r code).1)).heap[cr]? := heap_set_ne hne
    rw [heap_set_eq hbr] at e1
    have e2 : (w1.setCell ⟨cr, 0, none⟩ (.int .u32 (endR M r code).1)).heap[ce]? = w1.heap[ce]? := heap_set_ne (Ne.symm hne)
    exact ⟨cell_at e1 rfl, cell_at (heap_set_eq (e2.trans hbe) _) rfl⟩
  clear hE hk hu hs hbr hbe
  generalize ha : (endR M r code).1 = a at HY HC
  generalize hc : (endR M r code).2 = c at HY HC
  have HA := Lib.hid (And.intro ha hc)
  clear ha hc
  go_wp2_with fail
  go_end0
  exact ⟨rfl, by rw [HA.out.1]; exact HC.out.1, by rw [HA.out.2]; exact HC.out.2, HY.out⟩
end Go.Proofs.Ytnenhecnkidnpaa
