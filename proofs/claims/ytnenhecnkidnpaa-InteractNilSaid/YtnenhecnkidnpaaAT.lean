/- The variable of the uppermost node. -/
import Derived.Test.YtnenhecnkidnpaaAN
namespace Go.Proofs.Ytnenhecnkidnpaa
open Go.RowKit Go.Maps Go.ChangeMaps Go.WideShapes

theorem flatNodes_get : ∀ (l : List PlaceV) (r j : Nat), j < 3 → (flatNodes l)[r * 3 + j]? = (l[r]?).bind (fun p => p.node[j]?)
  | [], r, j, _ => by simp [flatNodes]
  | p :: l, 0, j, hj => by
    have e : flatNodes (p :: l) = p.node ++ flatNodes l := rfl
    rw [e, List.getElem?_append_left (by simp [PlaceV.node]; omega)]; simp
  | p :: l, r + 1, j, hj => by
    have e : flatNodes (p :: l) = p.node ++ flatNodes l := rfl
    rw [e, List.getElem?_append_right (by simp [PlaceV.node]; omega), show (r + 1) * 3 + j - p.node.length = r * 3 + j by simp [PlaceV.node]; omega, flatNodes_get l r j hj]
    simp

def topF (K : KV) (v : Int) (p : PlaceV) : Int := if 0 ≤ p.var ∧ (v < 0 ∨ K.lev p.var.toNat < K.lev v.toNat) then p.var else v
def KV.top (K : KV) (l : List PlaceV) : Int := l.foldl (topF K) (-1)

/-- no variable, or one -/
def KV.orVar (K : KV) (v : Int) : Prop := v = -1 ∨ ∃ n : Nat, v = (n : Int) ∧ n < K.vars

theorem top_snoc (K : KV) (l : List PlaceV) (p : PlaceV) : K.top (l ++ [p]) = topF K (K.top l) p := by simp [KV.top]

theorem top_or {K : KV} {l : List PlaceV} (h : ∀ p, p ∈ l → K.orVar p.var) : K.orVar (K.top l) := by
  have key : ∀ (l : List PlaceV) (v : Int), K.orVar v → (∀ p, p ∈ l → K.orVar p.var) → K.orVar (l.foldl (topF K) v) := by
    intro l
    induction l with
    | nil => intro v hv _; exact hv
    | cons p l ih =>
      intro v hv h
      refine ih _ ?_ fun p hp => h p (List.mem_cons_of_mem _ hp)
      unfold topF
      split
      · exact h p (by simp)
      · exact hv
  exact key l (-1) (.inl rfl) h

theorem WK.levRow {w : World} {wb b : Nat} {K : KV} {T : List DM} {q : KPtr} {M : List Nat} {lvv mv : Value} (h : WK w wb b K T q M lvv mv) :
    ∃ g c, lvv = .slice (some ⟨g, 0, none⟩) K.level.length c ∧ w.cell? ⟨wb, 1, none⟩ = some (.slice (some ⟨g, 0, none⟩) K.level.length c) ∧ ∀ n, n < K.vars → w.cell? ⟨g, n, none⟩ = some (.int .i64 (K.lev n)) := by
  have hll := h.ker.ok.ord.pm.ll
  have hvs := h.ker.ok.wf.vs
  obtain ⟨g, c, hq, _, _⟩ := h.wk.ls.form (by omega)
  refine ⟨g, c, hq, by rw [← hq]; exact cell_at h.wk.blk rfl, fun n hn => ?_⟩
  have := h.wk.ls
  rw [hq] at this
  exact row_cell this (by simp [flatN, KV.lev, show n < K.level.length by omega])

set_option maxRecDepth 100000 in
set_option maxHeartbeats 3200000 in
theorem wtop_spec (wb b : Nat) (K : KV) (T : List DM) (q : KPtr) (M : List Nat) (lvv mv v : Value) (base : Nat) (ps : List PlaceV) (w : World) (h : WK w wb b K T q M lvv mv) (hrow : w.ownsRow base 55 3 v ps.length (flatNodes ps)) (hp : ∀ p, p ∈ ps → K.orVar p.var) (hl : ps.length ≤ 1000) :
    Calls Try.prog 58 #[.pointer (some ⟨wb, 0, none⟩), v] w fun e w' => e = .returned (.int .i64 (K.top ps)) ∧ Upd [] w w' := by
  obtain ⟨fa, fc, rfl, _⟩ := row_nil_len hrow
  have HROW := Lib.hid hrow
  have HP := Lib.hid hp
  have HW := Lib.hid h
  have hvs := h.ker.ok.wf.vs
  have hll := h.ker.ok.ord.pm.ll
  clear h hrow hp
  go_enter Try.func58, Try.ntmps58
  go_wp2_with fail
  go_loopg [5, 10] ps.length (fun g s5 s10 wr => ∃ i : Nat, ps.length - i = g ∧ i ≤ ps.length ∧ s10 = .int .i64 i ∧ s5 = .int .i64 (K.top (ps.take i)) ∧ Upd [] w wr)
  case atStart =>
    exact ⟨0, by omega, by omega, rfl, rfl, Upd.refl _ _⟩
  case round =>
    obtain ⟨i, rfl, hi, rfl, rfl, hU⟩ := hrel
    by_cases hlt : i < ps.length
    · obtain ⟨p, hpi⟩ : ∃ p, ps[i]? = some p := ⟨_, List.getElem?_eq_getElem hlt⟩
      have hpm := List.mem_of_getElem? hpi
      obtain ⟨gr, rfl⟩ := row_some HROW.out (by omega)
      have hr := row_keep HROW.out fun k hk => hU.block k (HROW.out.lt k hk).2 (by simp)
      have d0 : wr.cell? ⟨gr, i * 3, none⟩ = some (.int .i64 p.var) := row_cell hr (by have := flatNodes_get ps i 0 (by omega); rw [Nat.add_zero] at this; rw [this, hpi]; rfl)
      have d1 : wr.cell? ⟨gr, i * 3 + 1, none⟩ = some (.int .u32 p.lo) := row_cell hr (by rw [flatNodes_get ps i 1 (by omega), hpi]; rfl)
      have d2 : wr.cell? ⟨gr, i * 3 + 2, none⟩ = some (.int .u32 p.hi) := row_cell hr (by rw [flatNodes_get ps i 2 (by omega), hpi]; rfl)
      have hil : (i : Int) < (ps.length : Int) := by omega
      have HT : Hid (K.top (ps.take (i + 1)) = topF K (K.top (ps.take i)) p) := by
        show K.top (ps.take (i + 1)) = _
        rw [List.take_add_one, hpi]
        exact top_snoc K _ p
      have hvo := top_or (K := K) (l := ps.take i) (fun p hp => HP.out p (List.mem_of_mem_take hp))
      have hpo := HP.out p hpm
      have HU := Lib.hid hU
      clear hU hr hpi hpm
      generalize K.top (ps.take i) = v at hvo HT
      have hloc : ∀ X, wr.heap.size < (wr.alloc X).heap.size := fun X => by rw [World.size_alloc]; omega
      have HK : Hid (∀ X, WK (wr.alloc X) wb b K T q M lvv mv) := fun X => HW.out.upd (HU.out.alloc X) (by simp)
      rcases hpo with hpv | ⟨n, hpv, hn⟩
      · have HT2 : Hid (topF K v p = v) := by
          show topF K v p = v
          unfold topF; rw [if_neg (by rw [hpv]; omega)]
        rw [hpv] at d0
        have hbx := heap_alloc_new wr (.cells #[.int .i64 (-1), .int .u32 p.lo, .int .u32 p.hi] 55 (0, 0))
        have b0 : (wr.alloc (.cells #[.int .i64 (-1), .int .u32 p.lo, .int .u32 p.hi] 55 (0, 0))).cell? ⟨wr.heap.size, 0, none⟩ = some (.int .i64 (-1)) := cell_at hbx rfl
        clear hpv hbx hvo
        go_wp2_with fail
        go_quiet (fail)
        go_wp2_with fail
        go_roundg (ps.length - (i + 1))
        case measure => omega
        case rel => exact ⟨i + 1, rfl, by omega, by simp, by rw [HT.out, HT2.out], (HU.out.alloc _).drewN _⟩
      · rw [hpv] at d0
        have hbx := heap_alloc_new wr (.cells #[.int .i64 (n : Int), .int .u32 p.lo, .int .u32 p.hi] 55 (0, 0))
        have b0 : (wr.alloc (.cells #[.int .i64 (n : Int), .int .u32 p.lo, .int .u32 p.hi] 55 (0, 0))).cell? ⟨wr.heap.size, 0, none⟩ = some (.int .i64 n) := cell_at hbx rfl
        obtain ⟨gl, cl, _, c1, clv⟩ := (HK.out (.cells #[.int .i64 (n : Int), .int .u32 p.lo, .int .u32 p.hi] 55 (0, 0))).levRow
        have cn := clv n hn
        have hnl : (n : Int) < (K.level.length : Int) := by omega
        have hls : K.level.length ≤ 64 := by omega
        have HPV := Lib.hid hpv
        clear hpv hbx
        rcases hvo with rfl | ⟨m, rfl, hm⟩
        · have HT2 : Hid (topF K (-1) p = (n : Int)) := by
            show topF K (-1) p = n
            unfold topF; rw [if_pos ⟨by rw [HPV.out]; omega, .inl (by omega)⟩]; exact HPV.out
          clear clv
          go_wp2_with fail
          go_quiet (fail)
          go_wp2_with fail
          go_roundg (ps.length - (i + 1))
          case measure => omega
          case rel => exact ⟨i + 1, rfl, by omega, by simp, by rw [HT.out, HT2.out], (HU.out.alloc _).drewN _⟩
        · have cm := clv m hm
          have hml : (m : Int) < (K.level.length : Int) := by omega
          clear clv
          by_cases hlv : K.lev n < K.lev m
          · have HT2 : Hid (topF K (m : Int) p = (n : Int)) := by
              show topF K (m : Int) p = n
              unfold topF; rw [HPV.out, if_pos ⟨by omega, .inr (by simpa using hlv)⟩]
            have hd1 : decide ((K.lev n : Int) < (K.lev m : Int)) = true := by simp; omega
            have hd2 : decide (K.lev n < K.lev m) = true := by simp; omega
            go_wp2_with fail
            go_quiet (fail)
            go_wp2_with fail
            go_roundg (ps.length - (i + 1))
            case measure => omega
            case rel => exact ⟨i + 1, rfl, by omega, by simp, by rw [HT.out, HT2.out], (HU.out.alloc _).drewN _⟩
          · have HT2 : Hid (topF K (m : Int) p = (m : Int)) := by
              show topF K (m : Int) p = m
              unfold topF; rw [HPV.out, if_neg (fun ⟨_, h⟩ => h.elim (fun h => by omega) (fun h => hlv (by simpa using h)))]
            have hd1 : decide ((K.lev n : Int) < (K.lev m : Int)) = false := by simp; omega
            have hd2 : decide (K.lev n < K.lev m) = false := by simp; omega
            have hd3 : ¬ ((K.lev n : Int) < (K.lev m : Int)) := by omega
            go_wp2_with fail
            go_quiet (fail)
            go_wp2_with fail
            go_roundg (ps.length - (i + 1))
            case measure => omega
            case rel => exact ⟨i + 1, rfl, by omega, by simp, by rw [HT.out, HT2.out], (HU.out.alloc _).drewN _⟩
    · obtain rfl : i = ps.length := by omega
      rw [List.take_length]
      have HU := Lib.hid hU
      clear hU
      go_wp2_with fail
      go_ret
      exact ⟨rfl, HU.out⟩
end Go.Proofs.Ytnenhecnkidnpaa
