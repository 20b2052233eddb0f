/- The table of nodes in memory, and the contracts of its calls. -/
import Derived.Test.YtnenhecnkidnpaaAr
import Derived.Test.YtnenhecnkidnpaaMap
import Derived.DeepKeys5
import Derived.Maps.Keyed
namespace Go.Proofs.Ytnenhecnkidnpaa
open Go.RowKit Go.Maps Go.ChangeMaps Go.WideShapes

/-- A node as a key. -/
def nk (v : Int) (lo hi : Nat) : Lit := .string (keyBytes [.int .i64 v, .int .u32 lo, .int .u32 hi])
theorem laidOut : laidOutB Try.prog = true := by kernel_rfl
theorem nodeKeyed : Keyed Try.prog 55 := Keyed.of_law (deep_law_gate laidOut (of_decide_eq_true (by kernel_rfl)) (of_decide_eq_true (by kernel_rfl)) (by kernel_rfl) (by kernel_rfl))
theorem kl_int {t : TypeId} {q : IntKind} (hu : Try.prog.underlying t = some (.int q)) (m : Nat) {n : Int} (h : (Lit.int q n).wf = true) : Try.prog.keyLits (m + 1) t [.int q n] = some [.int q n] := by
  unfold Program.keyLits
  rw [hu]
  simp [h]
theorem nk_of {v : Int} {lo hi : Nat} (hv : (Lit.int .i64 v).wf = true) (h1 : (Lit.int .u32 lo).wf = true) (h2 : (Lit.int .u32 hi).wf = true) :
    keyOf Try.prog 55 (.agg #[.int .i64 v, .int .u32 lo, .int .u32 hi]) = some (nk v lo hi) := by
  have hk : Try.prog.keyType 55 = true := by kernel_rfl
  obtain ⟨m, hm⟩ : ∃ m, Try.prog.types.size = m + 1 := ⟨Try.prog.types.size - 1, by have : 0 < Try.prog.types.size := of_decide_eq_true (by kernel_rfl); omega⟩
  have c3 : Try.prog.cellsOf 3 = 1 := by kernel_rfl
  have c40 : Try.prog.cellsOf 27 = 1 := by kernel_rfl
  have c44 : Try.prog.cellsOf 55 = 3 := by kernel_rfl
  have kl : Try.prog.keyLits (m + 2) 55 [.int .i64 v, .int .u32 lo, .int .u32 hi] = some [.int .i64 v, .int .u32 lo, .int .u32 hi] := by
    unfold Program.keyLits
    rw [Try.underlying55]
    simp only [c44]
    simp [c3, c40, kl_int Try.underlying3 m hv, kl_int Try.underlying27 m h1, kl_int Try.underlying27 m h2]
  have hf : Value.formed Try.prog 55 (.agg #[.int .i64 v, .int .u32 lo, .int .u32 hi]) = true := by
    simp [Value.formed, Try.underlying55, c44]
  rw [keyOf, Try.underlying55]
  show (if (Try.prog.keyType 55 && Value.formed Try.prog 55 (.agg #[.int .i64 v, .int .u32 lo, .int .u32 hi])) = true then Option.map (fun ls => Lit.string (keyBytes ls)) (Try.prog.keyLits (Try.prog.types.size + 1) 55 [.int .i64 v, .int .u32 lo, .int .u32 hi]) else none) = _
  rw [hk, hf, hm]
  rw [Bool.and_self, if_pos rfl]
  show Option.map (fun ls => Lit.string (keyBytes ls)) (Try.prog.keyLits (m + 2) 55 [.int .i64 v, .int .u32 lo, .int .u32 hi]) = _
  rw [kl]
  rfl
theorem nk_inj {v v' : Int} {lo hi lo' hi' : Nat} (hv : (Lit.int .i64 v).wf = true) (h1 : (Lit.int .u32 lo).wf = true) (h2 : (Lit.int .u32 hi).wf = true)
    (hv' : (Lit.int .i64 v').wf = true) (h1' : (Lit.int .u32 lo').wf = true) (h2' : (Lit.int .u32 hi').wf = true) (e : nk v lo hi = nk v' lo' hi') : v = v' ∧ lo = lo' ∧ hi = hi' := by
  have h := nodeKeyed.inj (nk_of hv h1 h2) (by rw [e]; exact nk_of hv' h1' h2')
  simp only [Value.agg.injEq, Array.mk.injEq, List.cons.injEq, Value.int.injEq, true_and, and_true] at h
  omega
theorem nk_isKey (v : Int) (lo hi : Nat) : WideAt.IsKeyLit (nk v lo hi) := trivial
theorem wfI {n : Int} (h1 : -9223372036854775808 ≤ n) (h2 : n ≤ 9223372036854775807) : (Lit.int .i64 n).wf = true := WalkArith.wf_i64 ⟨h1, h2⟩
theorem wfR {n : Nat} (h : n ≤ 4294967295) : (Lit.int .u32 n).wf = true := WalkArith.wf_u32 ⟨by omega, by omega⟩
theorem zeroRef (w : World) : (zeroValue 27).run Try.prog w = .ok (.int .u32 0) w := by kernel_rfl

structure TabAt (w : World) (tb : Nat) (T : List DM) (F : List Nat) : Prop where
  ex : ∃ (g cap : Nat) (mbs : List Nat), w.heap[tb]? = some (.cells #[.slice (some ⟨g, 0, none⟩) T.length cap] 95 (0, 0)) ∧
    w.ownsRow 0 96 1 (.slice (some ⟨g, 0, none⟩) T.length cap) T.length (mbs.map fun m => Value.map (some m)) ∧ mbs.length = T.length ∧
    (∀ (v : Nat) (D : DM) (m : Nat), T[v]? = some D → mbs[v]? = some m → w.ownsMap Try.prog 55 (plainElem Try.prog 27) m (Maps.size D) D) ∧
    F = tb :: g :: mbs ∧ tb ≠ g ∧ mbs.Nodup ∧ tb ∉ mbs ∧ g ∉ mbs
  bd : T.length ≤ 64

theorem TabAt.lt {w : World} {tb : Nat} {T : List DM} {F : List Nat} (h : TabAt w tb T F) : ∀ k, k ∈ F → k < w.heap.size := by
  obtain ⟨g, cap, mbs, h1, h2, h3, h4, rfl, _⟩ := h.ex
  intro k hk
  simp at hk
  rcases hk with rfl | rfl | hk
  · exact heap_lt h1
  · exact (h2.lt _ rfl).2
  · obtain ⟨v, hv⟩ := List.mem_iff_getElem?.1 hk
    have hvl := (List.getElem?_eq_some_iff.1 hv).1
    exact (h4 v (T[v]'(by omega)) k (List.getElem?_eq_getElem (by omega)) hv).lt

theorem TabAt.keep {w w' : World} {tb : Nat} {T : List DM} {F : List Nat} (h : TabAt w tb T F) (hk : ∀ k, k ∈ F → w'.heap[k]? = w.heap[k]?) : TabAt w' tb T F := by
  obtain ⟨g, cap, mbs, h1, h2, h3, h4, rfl, hr⟩ := h.ex
  refine ⟨⟨g, cap, mbs, by rw [hk tb (by simp)]; exact h1, row_keep h2 (fun k hk' => by cases hk'; exact hk _ (by simp)), h3, fun v D m hD hm => own_keep (h4 v D m hD hm) (hk m (by simp [List.mem_of_getElem? hm])), rfl, hr⟩, h.bd⟩

theorem TabAt.upd {w w' : World} {tb : Nat} {T : List DM} {F S : List Nat} (h : TabAt w tb T F) (u : Upd S w w') (hd : ∀ k, k ∈ F → k ∉ S) : TabAt w' tb T F :=
  h.keep fun k hk => u.block k (h.lt k hk) (hd k hk)

set_option maxRecDepth 100000 in
set_option maxHeartbeats 400000 in
theorem tcheck_ok (tb : Nat) (F : List Nat) (v : Int) (T : List DM) (w : World) (h : TabAt w tb T F) (h0 : 0 ≤ v) (h1 : v < T.length) :
    Calls Try.prog 75 #[.pointer (some ⟨tb, 0, none⟩), .int .i64 v] w fun e w' => e = .returned (.int .i64 0) ∧ w = w' := by
  obtain ⟨g, cap, mbs, e1, _⟩ := h.ex
  have hbd := h.bd
  have hc0 : w.cell? ⟨tb, 0, none⟩ = some (.slice (some ⟨g, 0, none⟩) T.length cap) := cell_at e1 rfl
  have hd0 : decide (v < 0) = false := by simp; omega
  have hd1 : decide ((T.length : Int) ≤ v) = false := by simp; omega
  clear e1 h
  go_enter Try.func75, Try.ntmps75
  go_wp2_with fail
  go_ret
  exact ⟨rfl, rfl⟩

set_option maxRecDepth 100000 in
set_option maxHeartbeats 400000 in
theorem tcheck_no (tb : Nat) (F : List Nat) (v : Int) (T : List DM) (w : World) (h : TabAt w tb T F) (h0 : v < 0 ∨ (T.length : Int) ≤ v) :
    Calls Try.prog 75 #[.pointer (some ⟨tb, 0, none⟩), .int .i64 v] w fun e w' => e = .returned (.int .i64 2) ∧ w = w' := by
  obtain ⟨g, cap, mbs, e1, _⟩ := h.ex
  have hbd := h.bd
  have hc0 : w.cell? ⟨tb, 0, none⟩ = some (.slice (some ⟨g, 0, none⟩) T.length cap) := cell_at e1 rfl
  clear e1 h
  by_cases hv : v < 0
  · go_enter Try.func75, Try.ntmps75
    go_wp2_with fail
    go_ret
    exact ⟨rfl, rfl⟩
  · have hd0 : decide (v < 0) = false := by simpa using hv
    have hd1 : (T.length : Int) ≤ v := by omega
    go_enter Try.func75, Try.ntmps75
    go_wp2_with fail
    go_ret
    exact ⟨rfl, rfl⟩

/-- What a walk wants of the table's cells. -/
theorem TabAt.cells {w : World} {tb : Nat} {T : List DM} {F : List Nat} (h : TabAt w tb T F) {v : Nat} {D : DM} (hv : T[v]? = some D) :
    ∃ g cap m, tb ∈ F ∧ g ∈ F ∧ m ∈ F ∧ w.cell? ⟨tb, 0, none⟩ = some (.slice (some ⟨g, 0, none⟩) T.length cap) ∧ w.cell? ⟨g, v, none⟩ = some (.map (some m)) ∧
      w.ownsMap Try.prog 55 (plainElem Try.prog 27) m (Maps.size D) D := by
  obtain ⟨g, cap, mbs, h1, h2, h3, h4, rfl, _⟩ := h.ex
  have hvl := (List.getElem?_eq_some_iff.1 hv).1
  have hm : mbs[v]? = some (mbs[v]'(by omega)) := List.getElem?_eq_getElem (by omega)
  exact ⟨g, cap, mbs[v]'(by omega), by simp, by simp, by simp [List.mem_of_getElem? hm], cell_at h1 rfl, row_cell h2 (by simp [hm]), h4 v D _ hv hm⟩

/-- a table's map is written -/
theorem TabAt.put {w w' : World} {tb : Nat} {T : List DM} {F : List Nat} (h : TabAt w tb T F) {v g cap m n : Nat} {D D' : DM} (hv : T[v]? = some D)
    (hg : w.cell? ⟨tb, 0, none⟩ = some (.slice (some ⟨g, 0, none⟩) T.length cap)) (hm : w.cell? ⟨g, v, none⟩ = some (.map (some m)))
    (hk : ∀ k, k ∈ F → k ≠ m → w'.heap[k]? = w.heap[k]?) (ho : w'.ownsMap Try.prog 55 (plainElem Try.prog 27) m n D') : TabAt w' tb (T.set v D') F := by
  obtain ⟨g', cap', mbs, h1, h2, h3, h4, rfl, h5, h6, h7, h8⟩ := h.ex
  have hvl := (List.getElem?_eq_some_iff.1 hv).1
  have e1 : some (Value.slice (some ⟨g', 0, none⟩) T.length cap') = some (Value.slice (some ⟨g, 0, none⟩) T.length cap) := (cell_at (j := 0) h1 rfl).symm.trans hg
  simp at e1
  obtain ⟨rfl, rfl⟩ := e1
  have hmv : mbs[v]? = some (mbs[v]'(by omega)) := List.getElem?_eq_getElem (by omega)
  have e2 : some (Value.map (some (mbs[v]'(by omega)))) = some (Value.map (some m)) := (row_cell h2 (by simp [hmv])).symm.trans hm
  simp at e2
  have hmm : m ∈ mbs := by rw [← e2]; exact List.getElem_mem _
  have hm1 : tb ≠ m := by rintro rfl; exact h7 hmm
  have hm2 : g' ≠ m := by rintro rfl; exact h8 hmm
  refine ⟨⟨g', cap', mbs, ?_, ?_, by simpa using h3, ?_, rfl, h5, h6, h7, h8⟩, by simpa using h.bd⟩
  · rw [hk tb (by simp) hm1, List.length_set]; exact h1
  · rw [List.length_set]
    refine row_keep h2 ?_
    rintro k hk'; cases hk'
    exact hk _ (by simp) hm2
  · intro u D2 m2 hD hm2'
    by_cases e : u = v
    · subst e
      rw [List.getElem?_set_self hvl] at hD; cases hD
      rw [hmv] at hm2'; cases hm2'
      rw [e2]; exact own_tight ho
    · rw [List.getElem?_set_ne (Ne.symm e)] at hD
      have hne : m2 ≠ m := by
        rintro rfl
        have : mbs[v]? = some m2 := by rw [hmv, e2]
        exact e ((List.getElem?_inj (List.getElem?_eq_some_iff.1 hm2').1 h6).1 (hm2'.trans this.symm))
      exact own_keep (h4 u D2 m2 hD hm2') (hk m2 (by simp [List.mem_of_getElem? hm2']) hne)

set_option maxRecDepth 100000 in
set_option maxHeartbeats 800000 in
theorem find_spec (tb : Nat) (F : List Nat) (v lo hi : Nat) (T : List DM) (D : DM) (w : World) (h : TabAt w tb T F) (hv : T[v]? = some D) (h1 : lo ≤ 4294967295) (h2 : hi ≤ 4294967295) :
    Calls Try.prog 67 #[.pointer (some ⟨tb, 0, none⟩), .agg #[.int .i64 v, .int .u32 lo, .int .u32 hi]] w fun e w' =>
      ∃ c : Int, e = .returned (.tuple #[.int .u32 c, .bool (Maps.has D (nk v lo hi))]) ∧ D.atKey (nk v lo hi) (.lit (.int .u32 0)) = .lit (.int .u32 c) ∧ Upd [] w w' := by
  have hvl := (List.getElem?_eq_some_iff.1 hv).1
  have hbd := h.bd
  obtain ⟨g, cap, m, hf1, hf2, hf3, hc0, hc1, ho⟩ := h.cells hv
  have hl := h.lt
  have hbt := hl _ hf1
  have hbg := hl _ hf2
  have hbm := hl _ hf3
  have hkey := nk_of (v := (v : Int)) (lo := lo) (hi := hi) (wfI (by omega) (by omega)) (wfR h1) (wfR h2)
  have HT := Lib.hid h
  have HO := Lib.hid ho
  have HK := Lib.hid hkey
  clear h ho hkey hl hv
  go_enter Try.func67, Try.ntmps67
  go_wp2_with fail
  refine (tcheck_ok tb F v T _ (HT.out.upd ((Upd.refl [] w).alloc _) (by simp)) (by omega) (by omega)).mono ?_
  rintro e w1 ⟨rfl, rfl⟩
  obtain ⟨x, ps, hrun, hx⟩ := (own_keep (w' := (w.alloc (.cells #[.int .i64 v, .int .u32 lo, .int .u32 hi] 55 (0, 0))).drew) HO.out (heap_alloc_old w _ hbm)).look_ok nodeKeyed Try.underlying96 (zeroRef _) (plainElem_int (H := Unit) Try.underlying27 (wfR (n := 0) (by omega))) HK.out
  obtain ⟨c, rfl, hat, hwc⟩ := plainElem_int_inv Try.underlying27 hx
  have hat0 : D.atKey (nk v lo hi) (.lit (.int .u32 0)) = .lit (.int .u32 c) := by simpa using congrArg Prod.fst hat
  have HAT := Lib.hid hat0
  clear hx hat hwc hat0
  go_wp2_with fail
  go_region
  go_wp2_with fail
  go_ret2
  exact ⟨c, rfl, HAT.out, ((Upd.refl [] w).alloc _).drew⟩

theorem turned_tab {w w1 w2 : World} {tb : Nat} {T : List DM} {F : List Nat} (h : TabAt w tb T F) {v g cap m n : Nat} {D D' : DM} (hv : T[v]? = some D)
    (hg : w.cell? ⟨tb, 0, none⟩ = some (.slice (some ⟨g, 0, none⟩) T.length cap)) (hm : w.cell? ⟨g, v, none⟩ = some (.map (some m))) (hmF : m ∈ F)
    (hu : Upd [] w w1) (ht : w1.mapTurned w2 m) (ho : w2.ownsMap Try.prog 55 (plainElem Try.prog 27) m n D') : TabAt w2 tb (T.set v D') F ∧ Upd F w w2 := by
  refine ⟨h.put hv hg hm (fun k hk hkm => ?_) ho, (hu.mono (by simp)).then (upd_turned ht) (by intro x hx; simp at hx; subst hx; exact .inl hmF)⟩
  rw [turned_at ht hkm]
  exact hu.block k (h.lt k hk) (by simp)

set_option maxRecDepth 100000 in
set_option maxHeartbeats 800000 in
theorem add_spec (tb : Nat) (F : List Nat) (v lo hi r : Nat) (T : List DM) (D : DM) (w : World) (h : TabAt w tb T F) (hv : T[v]? = some D) (h1 : lo ≤ 4294967295) (h2 : hi ≤ 4294967295) (hr : r ≤ 4294967295)
    (hno : Maps.has D (nk v lo hi) = false) (hsz : Maps.size D < maxLen) :
    Calls Try.prog 71 #[.pointer (some ⟨tb, 0, none⟩), .agg #[.int .i64 v, .int .u32 lo, .int .u32 hi], .int .u32 r] w fun e w' =>
      e = .returned (.int .i64 0) ∧ TabAt w' tb (T.set v (D.put (nk v lo hi) (.lit (.int .u32 r)))) F ∧ Upd F w w' := by
  have hvl := (List.getElem?_eq_some_iff.1 hv).1
  have hbd := h.bd
  obtain ⟨g, cap, m, hf1, hf2, hf3, hc0, hc1, ho⟩ := h.cells hv
  have hl := h.lt
  have hbt := hl _ hf1
  have hbg := hl _ hf2
  have hbm := hl _ hf3
  have hkey := nk_of (v := (v : Int)) (lo := lo) (hi := hi) (wfI (by omega) (by omega)) (wfR h1) (wfR h2)
  have HT := Lib.hid h
  have HO := Lib.hid ho
  have HK := Lib.hid hkey
  have HV := Lib.hid hv
  have HN := Lib.hid hno
  clear h ho hkey hl hv hno
  go_enter Try.func71, Try.ntmps71
  go_wp2_with fail
  refine (tcheck_ok tb F v T _ (HT.out.upd ((Upd.refl [] w).alloc _) (by simp)) (by omega) (by omega)).mono ?_
  rintro e w1 ⟨rfl, rfl⟩
  obtain ⟨x, ps, hrun, hx⟩ := (own_keep (w' := (w.alloc (.cells #[.int .i64 v, .int .u32 lo, .int .u32 hi] 55 (0, 0))).drew) HO.out (heap_alloc_old w _ hbm)).look_ok nodeKeyed Try.underlying96 (zeroRef _) (plainElem_int (H := Unit) Try.underlying27 (wfR (n := 0) (by omega))) HK.out
  rw [HN.out] at hrun
  obtain ⟨c, rfl, hat, hwc⟩ := plainElem_int_inv Try.underlying27 hx
  clear hx hat hwc
  obtain ⟨w9, hrun2, hown, hturn⟩ := (own_keep (w' := (w.alloc (.cells #[.int .i64 v, .int .u32 lo, .int .u32 hi] 55 (0, 0))).drew.drew) HO.out (heap_alloc_old w _ hbm)).store nodeKeyed Try.underlying96 hsz HK.out (plainElem_int (H := Unit) Try.underlying27 (wfR hr))
  have HE := Lib.hid (turned_tab HT.out HV.out hc0 hc1 hf3 (((Upd.refl [] w).alloc _).drew.drew) hturn hown)
  clear hturn hown
  go_wp2_with fail
  go_region
  go_wp2_with fail
  go_region
  go_wp2_with fail
  go_ret
  exact ⟨rfl, HE.out⟩

/-- delete as a step of a region that draws -/
theorem step_del {P : Program} {w : World} {ops : Array Oper} {o : Oper} {a : Act} {K : Act → World → Prop} {Q : Exit → Act → World → Prop} {E : Prop} (hgd : o.guard = none) (m x : Operand) (t k : TypeId)
    (hop : o.op = .call { callee := .builtin .delete, args := #[m, x], argTypes := #[t, k] }) {mv xv v : Value} {w' : World} (hm : a.eval m = mv) (hx : a.eval x = xv)
    (hrun : (Builtin.delete_ #[t, k] o.type #[mv, xv]).run P w = .ok v w') (h : K (a.put o.dst v) w') :
    if Region.wanted o (yielded ops a.tmps) = true then Oper.wp P o a w K Q else E := by
  have hw : Region.wanted o (yielded ops a.tmps) = true := by simp [Region.wanted, hgd]
  rw [if_pos hw]
  unfold Oper.wp
  simp [execOp, hop, resolve, invoke, builtin, hm, hx, hrun, Result.andThen]
  exact h

set_option maxRecDepth 100000 in
set_option maxHeartbeats 800000 in
theorem rem_spec (tb : Nat) (F : List Nat) (v lo hi : Nat) (T : List DM) (D : DM) (w : World) (h : TabAt w tb T F) (hv : T[v]? = some D) (h1 : lo ≤ 4294967295) (h2 : hi ≤ 4294967295)
    (hyes : Maps.has D (nk v lo hi) = true) :
    Calls Try.prog 77 #[.pointer (some ⟨tb, 0, none⟩), .agg #[.int .i64 v, .int .u32 lo, .int .u32 hi]] w fun e w' =>
      e = .returned (.int .i64 0) ∧ TabAt w' tb (T.set v (D.del (nk v lo hi))) F ∧ Upd F w w' := by
  have hvl := (List.getElem?_eq_some_iff.1 hv).1
  have hbd := h.bd
  obtain ⟨g, cap, m, hf1, hf2, hf3, hc0, hc1, ho⟩ := h.cells hv
  have hl := h.lt
  have hbt := hl _ hf1
  have hbg := hl _ hf2
  have hbm := hl _ hf3
  have hkey := nk_of (v := (v : Int)) (lo := lo) (hi := hi) (wfI (by omega) (by omega)) (wfR h1) (wfR h2)
  have HT := Lib.hid h
  have HO := Lib.hid ho
  have HK := Lib.hid hkey
  have HV := Lib.hid hv
  have HN := Lib.hid hyes
  clear h ho hkey hl hv hyes
  go_enter Try.func77, Try.ntmps77
  go_wp2_with fail
  refine (tcheck_ok tb F v T _ (HT.out.upd ((Upd.refl [] w).alloc _) (by simp)) (by omega) (by omega)).mono ?_
  rintro e w1 ⟨rfl, rfl⟩
  obtain ⟨x, ps, hrun, hx⟩ := (own_keep (w' := (w.alloc (.cells #[.int .i64 v, .int .u32 lo, .int .u32 hi] 55 (0, 0))).drew) HO.out (heap_alloc_old w _ hbm)).look_ok nodeKeyed Try.underlying96 (zeroRef _) (plainElem_int (H := Unit) Try.underlying27 (wfR (n := 0) (by omega))) HK.out
  rw [HN.out] at hrun
  obtain ⟨c, rfl, hat, hwc⟩ := plainElem_int_inv Try.underlying27 hx
  clear hx hat hwc
  obtain ⟨w9, hrun2, hown, hturn⟩ := (own_keep (w' := (w.alloc (.cells #[.int .i64 v, .int .u32 lo, .int .u32 hi] 55 (0, 0))).drew.drew) HO.out (heap_alloc_old w _ hbm)).drop nodeKeyed Try.underlying96 HK.out 0
  have HRUN := Lib.hid hrun2
  have HE := Lib.hid (turned_tab HT.out HV.out hc0 hc1 hf3 (((Upd.refl [] w).alloc _).drew.drew) hturn hown)
  clear hturn hown hrun2
  go_wp2_with fail
  go_region
  go_wp2_with fail
  go_region_law (refine step_del rfl (.tmp 37) (.tmp 38) 96 55 rfl rfl rfl HRUN.out ?_)
  all_goals
    go_wp2_with fail
    go_ret
    exact ⟨rfl, HE.out⟩
end Go.Proofs.Ytnenhecnkidnpaa
