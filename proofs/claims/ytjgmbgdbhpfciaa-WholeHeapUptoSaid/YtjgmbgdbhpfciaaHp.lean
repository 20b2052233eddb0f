/- The heap in memory, and the contracts of its inner calls. -/
import Derived.Test.YtjgmbgdbhpfciaaRows
import Derived.Test.YtjgmbgdbhpfciaaHpP
import Derived.StillTailTactics
namespace Go.Proofs.Ytjgmbgdbhpfciaa
open Go.RowKit Go.Maps Go.WideShapes

def flatIts (L : List It) : List Value := L.flatMap fun a => [.int .i64 a.x, .int .i64 a.k]

theorem its_get : ∀ (L : List It) (i : Nat), (flatIts L)[i * 2]? = (L[i]?).map (fun a => Value.int .i64 a.x) ∧ (flatIts L)[i * 2 + 1]? = (L[i]?).map (fun a => Value.int .i64 a.k) := by
  intro L
  induction L with
  | nil => intro i; simp [flatIts]
  | cons p t ih =>
    intro i
    cases i with
    | zero => simp [flatIts]
    | succ i =>
      have := ih i
      simp only [flatIts, List.flatMap_cons] at this ⊢
      rw [List.getElem?_append_right (by simp; omega), List.getElem?_append_right (by simp; omega)]
      simp at this ⊢
      rw [show (i + 1) * 2 - 2 = i * 2 by omega, show (i + 1) * 2 - 1 = i * 2 + 1 by omega]
      exact this

theorem its_set : ∀ (L : List It) (i : Nat) (a : It), flatIts (L.set i a) = ((flatIts L).set (i * 2) (.int .i64 a.x)).set (i * 2 + 1) (.int .i64 a.k) := by
  intro L
  induction L with
  | nil => intro i a; simp [flatIts]
  | cons q t ih =>
    intro i a
    cases i with
    | zero => simp [flatIts]
    | succ i =>
      have := ih i a
      have hh : (i + 1) * 2 + 1 = (i * 2 + 1) + 2 := by omega
      have h0 : (i + 1) * 2 = (i * 2) + 2 := by omega
      simp only [flatIts, List.set_cons_succ, List.flatMap_cons] at this ⊢
      rw [this, hh, h0]
      simp [List.set_cons_succ]

theorem its_snoc (L : List It) (a : It) : flatIts (L ++ [a]) = flatIts L ++ [.int .i64 a.x, .int .i64 a.k] := by simp [flatIts]

structure HpMem (w : World) (b : Nat) (L : List It) (D : DM) (F : List Nat) : Prop where
  cells : ∃ lv mb, w.heap[b]? = some (.cells #[lv, .map (some mb)] 52 (0, 0)) ∧ w.ownsRow 0 55 2 lv L.length (flatIts L) ∧
    w.ownsMap Try.prog 3 (plainElem Try.prog 3) mb (Maps.size D) D ∧ F = [b, mb] ++ lv.ownBlock.toList ∧ b ≠ mb ∧ some b ≠ lv.ownBlock ∧ some mb ≠ lv.ownBlock
  bd : L.length ≤ 2147483647

theorem HpMem.lt {w : World} {b : Nat} {L : List It} {D : DM} {F : List Nat} (h : HpMem w b L D F) : ∀ k, k ∈ F → k < w.heap.size := by
  obtain ⟨lv, mb, h1, h2, h3, rfl, _⟩ := h.cells
  intro k hk
  simp at hk
  rcases hk with rfl | rfl | hk
  · exact heap_lt h1
  · exact h3.lt
  · exact (h2.lt _ hk).2

theorem HpMem.keep {w w' : World} {b : Nat} {L : List It} {D : DM} {F : List Nat} (h : HpMem w b L D F) (hk : ∀ k, k ∈ F → w'.heap[k]? = w.heap[k]?) : HpMem w' b L D F := by
  obtain ⟨lv, mb, h1, h2, h3, rfl, hr⟩ := h.cells
  refine ⟨⟨lv, mb, by rw [hk b (by simp)]; exact h1, row_keep h2 (fun k hk' => hk _ (by simp [hk'])), own_keep h3 (hk _ (by simp)), rfl, hr⟩, h.bd⟩

theorem HpMem.upd {w w' : World} {b : Nat} {L : List It} {D : DM} {F S : List Nat} (h : HpMem w b L D F) (u : Upd S w w') (hd : ∀ k, k ∈ F → k ∉ S) : HpMem w' b L D F :=
  h.keep fun k hk => u.block k (h.lt k hk) (hd k hk)

theorem HpMem.head {w : World} {b : Nat} {L : List It} {D : DM} {F : List Nat} (h : HpMem w b L D F) : b ∈ F := by
  obtain ⟨lv, mb, h1, h2, h3, rfl, hr⟩ := h.cells
  simp

theorem intKeyed : Keyed Try.prog 3 := int_keyed Try.underlying3
theorem zeroInt (w : World) : (zeroValue 3).run Try.prog w = .ok (.int .i64 0) w := by kernel_rfl
theorem wf64 {n : Int} (h1 : -9223372036854775808 ≤ n) (h2 : n ≤ 9223372036854775807) : (Lit.int .i64 n).wf = true := WalkArith.wf_i64 ⟨h1, h2⟩

theorem put_heap {w : World} {g i k : Nat} {u v : Value} {o : Obj} (hk : k < w.heap.size) (hg : k ≠ g) :
    ((((w.setCell ⟨g, i * 2, none⟩ u).setCell ⟨g, i * 2 + 1, none⟩ v).alloc o).drew.drew).heap[k]? = w.heap[k]? := by
  show ((((w.setCell ⟨g, i * 2, none⟩ u).setCell ⟨g, i * 2 + 1, none⟩ v).alloc o)).heap[k]? = _
  rw [heap_alloc_old _ _ (by simpa [World.setCell] using hk), heap_set_ne hg, heap_set_ne hg]

theorem put_end {w w9 : World} {b mb g cap i n : Nat} {a : It} {L : List It} {F : List Nat} {D' : DM} {o : Obj}
    (h1 : w.heap[b]? = some (.cells #[.slice (some ⟨g, 0, none⟩) L.length cap, .map (some mb)] 52 (0, 0)))
    (h2 : w.ownsRow 0 55 2 (.slice (some ⟨g, 0, none⟩) L.length cap) L.length (flatIts L)) (hF : F = [b, mb, g]) (hbm : b ≠ mb) (hbl : ¬ b = g) (hml : ¬ mb = g) (hi : i < L.length)
    (hown : w9.ownsMap Try.prog 3 (plainElem Try.prog 3) mb n D')
    (ht : ((((w.setCell ⟨g, i * 2, none⟩ (.int .i64 a.x)).setCell ⟨g, i * 2 + 1, none⟩ (.int .i64 a.k)).alloc o).drew.drew).mapTurned w9 mb) (hbd : L.length ≤ 2147483647 := by assumption) :
    HpMem w9 b (L.set i a) D' F ∧ Upd F w w9 := by
  have hb := heap_lt h1
  have hg := (h2.lt g rfl).2
  refine ⟨⟨⟨.slice (some ⟨g, 0, none⟩) L.length cap, mb, ?_, ?_, own_tight hown, by simpa [Value.ownBlock] using hF, hbm, by simpa [Value.ownBlock] using hbl, by simpa [Value.ownBlock] using hml⟩, by simpa using hbd⟩, ?_⟩
  · rw [turned_at ht hbm, put_heap hb hbl]; exact h1
  · rw [List.length_set, its_set]
    have r := (row_set (row_set h2 (j := i * 2) (by omega) (.int .i64 a.x)) (j := i * 2 + 1) (by omega) (.int .i64 a.k)).alloc o
    refine row_keep (row_drew (row_drew r)) ?_
    rintro k hk; cases hk
    exact turned_at ht (fun e => hml e.symm)
  · have u0 : Upd F w ((((w.setCell ⟨g, i * 2, none⟩ (.int .i64 a.x)).setCell ⟨g, i * 2 + 1, none⟩ (.int .i64 a.k)).alloc o).drew.drew) :=
      (((((Upd.refl F w).setCell (by simp [hF]) _).setCell (by simp [hF]) _).alloc _).drew).drew
    exact u0.then (upd_turned ht) (by intro x hx; simp at hx; subst hx; left; simp [hF])

set_option maxHeartbeats 800000 in
theorem put_spec (b i : Nat) (a : It) (L : List It) (D : DM) (F : List Nat) (w : World) (h : HpMem w b L D F) (hi : i < L.length) (hx : (Lit.int .i64 a.x).wf = true) (hsz : Maps.size D < maxLen) :
    Calls Try.prog 17 #[.pointer (some ⟨b, 0, none⟩), .int .i64 i, .agg #[.int .i64 a.x, .int .i64 a.k]] w fun e w' =>
      e = .returned (.tuple #[]) ∧ HpMem w' b (L.set i a) (D.put (.int .i64 a.x) (.lit (.int .i64 i))) F ∧ Upd F w w' := by
  obtain ⟨lv, mb, h1, h2, h3, hF, hbm, hbl, hml⟩ := h.cells
  have hbd := h.bd
  obtain ⟨g, cap, rfl, _, hg⟩ := h2.form (by omega)
  simp [Value.ownBlock] at hF hbl hml
  obtain ⟨c, hc⟩ : ∃ c, L[i]? = some c := ⟨_, List.getElem?_eq_getElem hi⟩
  have hb := heap_lt h1
  have hm := h3.lt
  have hc0 : w.cell? ⟨b, 0, none⟩ = some (.slice (some ⟨g, 0, none⟩) L.length cap) := cell_at h1 rfl
  have hc1 : w.cell? ⟨b, 1, none⟩ = some (.map (some mb)) := cell_at h1 rfl
  have g0 : w.cell? ⟨g, i * 2, none⟩ = some (.int .i64 c.x) := row_cell h2 (by rw [(its_get L i).1, hc]; rfl)
  have g1 : w.cell? ⟨g, i * 2 + 1, none⟩ = some (.int .i64 c.k) := row_cell h2 (by rw [(its_get L i).2, hc]; rfl)
  have z0 := row_frozen h2 (i * 2)
  have z1 := row_frozen h2 (i * 2 + 1)
  have hnb : ¬ w.heap.size = b := by omega
  have hng : ¬ w.heap.size = g := by omega
  have H1 := Lib.hid h1
  have H2 := Lib.hid h2
  have H3 := Lib.hid h3
  have HF := Lib.hid hF
  obtain ⟨w9, hrun, hown, hturn⟩ := (own_keep (w' := ((((w.setCell ⟨g, i * 2, none⟩ (.int .i64 a.x)).setCell ⟨g, i * 2 + 1, none⟩ (.int .i64 a.k)).alloc (.cells #[.int .i64 a.x, .int .i64 a.k] 55)).drew.drew)) h3
    (by rw [put_heap (k := mb) (by omega)]; exact fun e => hml e)).store intKeyed Try.underlying50 hsz (keyOf_int_mk Try.underlying3 hx) (plainElem_int (H := Unit) Try.underlying3 (wf64 (n := (i : Int)) (by omega) (by omega)))
  have HE := Lib.hid (put_end (a := a) H1.out H2.out HF.out hbm hbl hml hi hown hturn)
  clear h1 h2 h3 hF h hc hown hturn
  go_enter Try.func17, Try.ntmps17
  go_wp2_with fail
  go_region
  go_wp2_with fail
  go_region
  go_wp2_with fail
  go_end0
  exact ⟨rfl, HE.out⟩
theorem put_at (b i : Nat) (iv : Int) (hiv : iv = (i : Int)) (a : It) (L : List It) (D : DM) (F : List Nat) (w : World) (h : HpMem w b L D F) (hi : i < L.length) (hx : (Lit.int .i64 a.x).wf = true) (hsz : Maps.size D < maxLen) :
    Calls Try.prog 17 #[.pointer (some ⟨b, 0, none⟩), .int .i64 iv, .agg #[.int .i64 a.x, .int .i64 a.k]] w fun e w' =>
      e = .returned (.tuple #[]) ∧ HpMem w' b (L.set i a) (D.put (.int .i64 a.x) (.lit (.int .i64 i))) F ∧ Upd F w w' := by
  subst hiv; exact put_spec b i a L D F w h hi hx hsz
end Go.Proofs.Ytjgmbgdbhpfciaa
