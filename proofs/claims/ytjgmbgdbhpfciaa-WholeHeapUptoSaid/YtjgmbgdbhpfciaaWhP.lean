/- WholeHeap, the plain part: the law's own lists and what they say of the heap. -/
import Derived.Test.YtjgmbgdbhpfciaaHpM
import Derived.ProofKit
import Derived.OpenShut
import Derived.Deep.LoopGhost
import Derived.Deep.DeepCutAuto
namespace Go.Proofs.Ytjgmbgdbhpfciaa
open Go.RowKit Go.Maps Go.WideShapes

def ints64 (V : List Int) : List Value := V.map fun (v : Int) => Value.int .i64 v

/-- A slice of integers that came in. -/
def IsRow (k : IntKind) (w : World) (a : Option Addr) (len cap : Nat) (zs : List Int) : Prop :=
  (a = none ∧ len = 0 ∧ cap = 0 ∧ zs = []) ∨
  ∃ x, a = some x ∧ len ≤ cap ∧ cap ≤ maxLen ∧ zs.length = cap ∧ (∀ i, i < zs.length → w.cell? (x.add i) = some (.int k (zs.getD i 0))) ∧ ∀ n ∈ zs, (Lit.int k n).wf = true

theorem row_in {k : IntKind} {w : World} {a : Option Addr} {len cap : Nat} {zs : List Int} (h : IsRow k w a len cap zs) {i : Nat} (hi : i < len) :
    ∃ bb off z, a = some ⟨bb, off, none⟩ ∧ bb < w.heap.size ∧ w.cell? ⟨bb, off + i, none⟩ = some (.int k z) ∧ (Lit.int k z).wf = true := by
  rcases h with ⟨_, h, _⟩ | ⟨x, rfl, h1, h2, h3, h4, h5⟩
  · omega
  · obtain ⟨bb, off, rfl, hc⟩ := ints_at h4 (by omega)
    have := hc i (by omega)
    exact ⟨bb, off, _, rfl, World.block_lt_of_cell? w _ this, this, h5 _ (by rw [List.getD_eq_getElem?_getD, List.getElem?_eq_getElem (by omega)]; simp)⟩

def items (N : List Int) (m : Nat) : List It := (List.range m).map fun j => ⟨(j : Nat), N.getD j 0⟩

theorem items_succ (N : List Int) (i : Nat) (v : Int) (hi : i < N.length) : items (N.set i v) (i + 1) = items N i ++ [⟨i, v⟩] := by
  unfold items
  rw [List.range_succ, List.map_append]
  congr 1
  · apply List.map_congr_left
    intro j hj
    have : j < i := List.mem_range.1 hj
    simp [show ¬ i = j by omega]
  · simp [hi]

theorem items_get {N : List Int} {m j : Nat} (hj : j < m) : (items N m)[j]? = some ⟨(j : Nat), N.getD j 0⟩ := by
  simp [items, hj]
theorem items_mem {N : List Int} {m : Nat} {a : It} : a ∈ items N m ↔ ∃ j : Nat, j < m ∧ a = ⟨j, N.getD j 0⟩ := by
  simp [items, eq_comm]
theorem items_set {N : List Int} {m j : Nat} {v : Int} (hj : j < m) (hm : m = N.length) : items (N.set j v) m = (items N m).set j ⟨(j : Nat), v⟩ := by
  apply List.ext_getElem?
  intro i
  by_cases hi : i < m
  · rw [items_get hi]
    by_cases e : j = i
    · subst e
      rw [List.getElem?_set_self (by simpa [items] using hj)]
      simp [← hm, hj]
    · rw [List.getElem?_set_ne e, items_get hi]
      simp [e]
  · rw [List.getElem?_eq_none (by simp [items]; omega), List.getElem?_eq_none (by simp [items]; omega)]

theorem perm_set {K L : List It} {i j : Nat} {a b : It} (h : K.Perm L) (hi : K[i]? = some a) (hj : L[j]? = some a) : (K.set i b).Perm (L.set j b) :=
  (List.perm_cons a).1 ((set_perm (b := b) hi).symm.trans ((h.cons b).trans (set_perm (b := b) hj)))

theorem hp_pop (b : Nat) (K : List It) (F : List Nat) (w : World) (h : HpAt w b K F) (hK : 0 < K.length) :
    Calls Try.prog 8 #[.pointer (some ⟨b, 0, none⟩)] w fun e w' =>
      ∃ a K', e = .returned (.tuple #[.int .i64 a.x, .int .i64 a.k, .int .i64 0]) ∧ HpAt w' b K' F ∧ (a :: K').Perm K ∧ (∀ c, c ∈ K' → le a c) ∧ Upd F w w' := by
  match K, hK, h with
  | a :: r, _, h =>
    have hl := h.hp.least (a := a) rfl
    rcases List.eq_nil_or_concat r with rfl | ⟨t, c, e⟩
    · refine (pop_one b a F w h).mono ?_
      rintro e w' ⟨rfl, h1, h2⟩
      exact ⟨a, [], rfl, h1, List.Perm.refl _, by simp, h2⟩
    · have e' : r = t ++ [c] := by rw [e]; simp
      subst e'
      refine (pop_many b a c t F w h).mono ?_
      rintro e w' ⟨rfl, K', h1, h2, h3⟩
      refine ⟨a, K', rfl, h1, (h2.trans (List.perm_append_comm (l₁ := [c]) (l₂ := t))).cons a, ?_, h3⟩
      intro d hd
      have hm : d ∈ a :: (t ++ [c]) := by
        rcases List.mem_cons.1 (h2.subset hd) with rfl | h'
        · exact List.mem_cons_of_mem _ (List.mem_append_right _ (by simp))
        · exact List.mem_cons_of_mem _ (List.mem_append_left _ h')
      obtain ⟨j, hj⟩ := List.mem_iff_getElem?.1 hm
      exact hl j d hj

structure LawMem (w wr : World) (b : Nat) (K : List It) (F : List Nat) (s9 : Value) (N : List Int) : Prop where
  hp : HpAt wr b K F
  r9 : wr.ownsRow w.heap.size 2 1 s9 N.length (ints64 N)
  d9 : ∀ k, s9.ownBlock = some k → k ∉ F
  nw : ∀ k, k ∈ F → w.heap.size ≤ k
  up : Upd [] w wr

theorem LawMem.heap {w wr w1 : World} {b : Nat} {K K' : List It} {F F' : List Nat} {s9 : Value} {N : List Int} (h : LawMem w wr b K F s9 N)
    (ha : HpAt w1 b K' F') (hu : Upd F wr w1) (hs : Sub F wr F') : LawMem w w1 b K' F' s9 N := by
  refine ⟨ha, row_keep h.r9 fun k hk => hu.block k (h.r9.lt k hk).2 (h.d9 k hk), fun k hk hf => ?_, fun k hk => ?_, h.up.then hu fun k hk => .inr (h.nw k hk)⟩
  · rcases hs k hf with h1 | h1
    · exact h.d9 k hk h1
    · have := (h.r9.lt k hk).2; omega
  · rcases hs k hk with h1 | h1
    · exact h.nw k h1
    · have := h.up.size; omega

theorem LawMem.set {w wr : World} {b i g n' c : Nat} {v : Int} {K : List It} {F : List Nat} {N : List Int} (h : LawMem w wr b K F (.slice (some ⟨g, 0, none⟩) n' c) N) (hi : i < N.length) :
    LawMem w (wr.setCell ⟨g, i, none⟩ (.int .i64 v)) b K F (.slice (some ⟨g, 0, none⟩) n' c) (N.set i v) := by
  have hg := h.d9 g rfl
  refine ⟨h.hp.upd ((Upd.refl [g] wr).setCell (by simp) _) (by intro k hk; simp; rintro rfl; exact hg hk), ?_, h.d9, h.nw, h.up.setCell (.inr (h.r9.lt g rfl).1) _⟩
  have := row_set h.r9 (j := i) (by omega) (.int .i64 v)
  rw [List.length_set]
  simpa [ints64, List.map_set] using this
end Go.Proofs.Ytjgmbgdbhpfciaa
