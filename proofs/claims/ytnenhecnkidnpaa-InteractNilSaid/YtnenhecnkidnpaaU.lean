/- Plain laws on worlds: what a call may have changed, and what stays; no program is named. -/
import Derived.WalkKit
import Derived.WalkSpells
import Derived.WalkLawsBesides
import Derived.Deep.QuietTactic
import Derived.BigQuiet
import Derived.Lib.Hide
import Derived.Deep.AppendLies
import Derived.Deep.RegionLaw
namespace Go.Proofs.Ytnenhecnkidnpaa
open Go.RowKit

/-- Of the blocks that were there, only those of S may have changed. -/
structure Upd (S : List Nat) (w w' : World) : Prop where
  os : w'.os = w.os
  tape : w'.tape = w.tape
  output : w'.output = w.output
  size : w.heap.size ≤ w'.heap.size
  block : ∀ k, k < w.heap.size → k ∉ S → w'.heap[k]? = w.heap[k]?

theorem Upd.refl (S : List Nat) (w : World) : Upd S w w := ⟨rfl, rfl, rfl, Nat.le_refl _, fun _ _ _ => rfl⟩

theorem Upd.then {S S' : List Nat} {w w1 w2 : World} (h : Upd S w w1) (k : Upd S' w1 w2) (hs : ∀ x, x ∈ S' → x ∈ S ∨ w.heap.size ≤ x) : Upd S w w2 :=
  ⟨k.os.trans h.os, k.tape.trans h.tape, k.output.trans h.output, Nat.le_trans h.size k.size, fun x hx hn =>
    (k.block x (Nat.lt_of_lt_of_le hx h.size) (fun hm => by rcases hs x hm with h1 | h1; exact hn h1; omega)).trans (h.block x hx hn)⟩

theorem Upd.trans {S : List Nat} {w w1 w2 : World} (h : Upd S w w1) (k : Upd S w1 w2) : Upd S w w2 := h.then k fun _ h => .inl h
theorem Upd.mono {S S' : List Nat} {w w' : World} (h : Upd S w w') (hs : ∀ x, x ∈ S → x ∈ S') : Upd S' w w' :=
  ⟨h.os, h.tape, h.output, h.size, fun x hx hn => h.block x hx fun hm => hn (hs x hm)⟩
theorem Upd.alloc {S : List Nat} {w w' : World} (h : Upd S w w') (o : Obj) : Upd S w (w'.alloc o) :=
  ⟨h.os, h.tape, h.output, by have := h.size; simp; omega, fun k hk hn => (Below.heap_alloc _ _ _ (by have := h.size; omega)).trans (h.block k hk hn)⟩
theorem Upd.setCell {S : List Nat} {w w' : World} (h : Upd S w w') {p : Addr} (hp : p.block ∈ S ∨ w.heap.size ≤ p.block) (u : Value) : Upd S w (w'.setCell p u) :=
  ⟨h.os, h.tape, h.output, by have := h.size; simpa [World.setCell] using this, fun k hk hn => (Below.heap_setCell _ _ _ _ (by rintro rfl; rcases hp with hp | hp; exact hn hp; omega)).trans (h.block k hk hn)⟩
theorem Upd.drew {S : List Nat} {w w' : World} (h : Upd S w w') : Upd S w w'.drew := ⟨h.os, h.tape, h.output, h.size, h.block⟩
theorem Upd.drewN {S : List Nat} {w w' : World} (h : Upd S w w') (n : Nat) : Upd S w (w'.drewN n) := ⟨h.os, h.tape, h.output, h.size, h.block⟩
theorem Upd.of_drew {S : List Nat} {w w' : World} (h : Upd S w.drew w') : Upd S w w' := ⟨h.os, h.tape, h.output, h.size, h.block⟩
theorem Upd.of_drewN {S : List Nat} {w w' : World} {n : Nat} (h : Upd S (w.drewN n) w') : Upd S w w' := ⟨h.os, h.tape, h.output, h.size, h.block⟩
theorem Upd.grown {S : List Nat} {w w1 w2 : World} {row : Option Nat} (h : Upd S w w1) (hg : w1.grownBy w2 row) (hr : ∀ k, row = some k → k ∈ S ∨ w.heap.size ≤ k) : Upd S w w2 :=
  ⟨hg.os.trans h.os, hg.tape.trans h.tape, hg.output.trans h.output, Nat.le_trans h.size hg.size, fun k hk hn =>
    (hg.block k (Nat.lt_of_lt_of_le hk h.size) fun e => by rcases hr k e.symm with h1 | h1; exact hn h1; omega).trans (h.block k hk hn)⟩

theorem Upd.cell {S : List Nat} {w w' : World} (h : Upd S w w') {a : Addr} (hl : a.block < w.heap.size) (hn : a.block ∉ S) : w'.cell? a = w.cell? a := World.cell?_of_block (h.block _ hl hn)
theorem Upd.frozen {S : List Nat} {w w' : World} (h : Upd S w w') {a : Addr} (hl : a.block < w.heap.size) (hn : a.block ∉ S) : w'.frozen? a = w.frozen? a := World.frozen?_of_block (h.block _ hl hn)

/-- Every block of the new footprint is of the old one, or new. -/
def Sub (F : List Nat) (w : World) (F' : List Nat) : Prop := ∀ k, k ∈ F' → k ∈ F ∨ w.heap.size ≤ k
theorem Sub.refl (F : List Nat) (w : World) : Sub F w F := fun _ h => .inl h

theorem addr_add (g j : Nat) : (⟨g, 0, none⟩ : Addr).add j = ⟨g, j, none⟩ := by unfold Addr.add; split <;> simp_all

theorem heap_lt {w : World} {b : Nat} {o : Obj} (h : w.heap[b]? = some o) : b < w.heap.size := (Array.getElem?_eq_some_iff.1 h).1

theorem cell_at {w : World} {b j : Nat} {cs : Array Value} {t : TypeId} {fr : Nat × Nat} {v : Value} (h : w.heap[b]? = some (.cells cs t fr)) (hv : cs[j]? = some v) : w.cell? ⟨b, j, none⟩ = some v := by
  simp [World.cell?, h, hv]
theorem frozen_at {w : World} {b : Nat} {cs : Array Value} {t : TypeId} (j : Nat) (h : w.heap[b]? = some (.cells cs t (0, 0))) : w.frozen? ⟨b, j, none⟩ = false := by
  simp [World.frozen?, h]

/-- A row stays where its block stays. -/
theorem row_keep {w w' : World} {base : Nat} {e : TypeId} {sz : Nat} {v : Value} {n : Nat} {xs : List Value} (h : w.ownsRow base e sz v n xs)
    (hk : ∀ k, v.ownBlock = some k → w'.heap[k]? = w.heap[k]?) : w'.ownsRow base e sz v n xs := by
  obtain ⟨a, c⟩ := h
  refine ⟨a, ?_⟩
  rcases c with c | ⟨g, cap, cur, rfl, hg, hh, rest⟩
  · exact .inl c
  · exact .inr ⟨g, cap, cur, rfl, hg, by rw [hk g rfl]; exact hh, rest⟩

theorem row_block {w : World} {base : Nat} {e : TypeId} {sz : Nat} {g n' c n : Nat} {xs : List Value} (h : w.ownsRow base e sz (.slice (some ⟨g, 0, none⟩) n' c) n xs) :
    n' = n ∧ n ≤ c ∧ c ≤ maxLen ∧ ∃ cur, w.heap[g]? = some (.cells cur e (0, 0)) ∧ cur.size = c * sz ∧ cur.toList.take (n * sz) = xs := by
  obtain ⟨_, (⟨c, _⟩ | ⟨g', cap, cur, e', hg, hh, h1, h2, h3, h4⟩)⟩ := h
  · simp at c
  · simp at e'
    obtain ⟨rfl, rfl, rfl⟩ := e'
    exact ⟨rfl, h1, h2, cur, hh, h3, h4⟩

theorem row_cell {w : World} {base : Nat} {e : TypeId} {sz : Nat} {g n' c n : Nat} {xs : List Value} (h : w.ownsRow base e sz (.slice (some ⟨g, 0, none⟩) n' c) n xs) {j : Nat} {u : Value} (hj : xs[j]? = some u) :
    w.cell? ⟨g, j, none⟩ = some u := by rw [← addr_add]; exact h.cells (g := g) rfl j u hj

theorem row_frozen {w : World} {base : Nat} {e : TypeId} {sz : Nat} {g n' c n : Nat} {xs : List Value} (h : w.ownsRow base e sz (.slice (some ⟨g, 0, none⟩) n' c) n xs) (j : Nat) :
    w.frozen? ⟨g, j, none⟩ = false := by
  obtain ⟨_, _, _, cur, h1, _, _⟩ := row_block h
  exact frozen_at j h1

/-- One cell of a row is written. -/
theorem row_set {w : World} {base : Nat} {e : TypeId} {sz : Nat} {g n' c n : Nat} {xs : List Value} (h : w.ownsRow base e sz (.slice (some ⟨g, 0, none⟩) n' c) n xs) {j : Nat} (hj : j < n * sz) (u : Value) :
    (w.setCell ⟨g, j, none⟩ u).ownsRow base e sz (.slice (some ⟨g, 0, none⟩) n' c) n (xs.set j u) := by
  obtain ⟨a, (⟨c, _⟩ | ⟨g', cap, cur, e', hg, hh, h1, h2, h3, h4⟩)⟩ := h
  · simp at c
  · simp at e'
    obtain ⟨rfl, rfl, rfl⟩ := e'
    refine ⟨by simpa using a, .inr ⟨g, c, cur.setIfInBounds j u, rfl, hg, ?_, h1, h2, by simpa using h3, ?_⟩⟩
    · simp [World.setCell, Array.getElem?_modify, hh]
    · rw [Array.toList_setIfInBounds, List.take_set, h4]

/-- A shorter row over the same block. -/
theorem row_take {w : World} {base : Nat} {e : TypeId} {sz : Nat} {g n' c n : Nat} {xs : List Value} (h : w.ownsRow base e sz (.slice (some ⟨g, 0, none⟩) n' c) n xs) {m : Nat} (hm : m ≤ n) :
    w.ownsRow base e sz (.slice (some ⟨g, 0, none⟩) m c) m (xs.take (m * sz)) := by
  obtain ⟨a, (⟨c, _⟩ | ⟨g', cap, cur, e', hg, hh, h1, h2, h3, h4⟩)⟩ := h
  · simp at c
  · simp at e'
    obtain ⟨rfl, rfl, rfl⟩ := e'
    have hms := Nat.mul_le_mul_right sz hm
    refine ⟨by rw [List.length_take, a]; omega, .inr ⟨g, c, cur, rfl, hg, hh, by omega, h2, h3, ?_⟩⟩
    rw [← h4, List.take_take]; congr 1; omega

theorem heap_set_ne {w : World} {a : Addr} {u : Value} {k : Nat} (h : k ≠ a.block) : (w.setCell a u).heap[k]? = w.heap[k]? := Below.heap_setCell _ _ _ _ h
theorem heap_set_eq {w : World} {b j : Nat} {cs : Array Value} {t : TypeId} {fr : Nat × Nat} (h : w.heap[b]? = some (.cells cs t fr)) (u : Value) :
    (w.setCell ⟨b, j, none⟩ u).heap[b]? = some (.cells (cs.setIfInBounds j u) t fr) := by
  simp [World.setCell, Array.getElem?_modify, h]

theorem row_ne {w : World} {base : Nat} {e : TypeId} {sz : Nat} {v : Value} {n : Nat} {xs : List Value} (h : w.ownsRow base e sz v n xs) {a : Addr} (ha : some a.block ≠ v.ownBlock) (u : Value) :
    (w.setCell a u).ownsRow base e sz v n xs := row_keep h fun k hk => heap_set_ne (by rintro rfl; exact ha hk.symm)

theorem row_drew {w : World} {base : Nat} {e : TypeId} {sz : Nat} {v : Value} {n : Nat} {xs : List Value} (h : w.ownsRow base e sz v n xs) : w.drew.ownsRow base e sz v n xs := h

theorem row_base {w : World} {base base' : Nat} {e : TypeId} {sz : Nat} {v : Value} {n : Nat} {xs : List Value} (h : w.ownsRow base e sz v n xs) (hb : base' ≤ base) : w.ownsRow base' e sz v n xs := by
  obtain ⟨a, (c | ⟨g, cap, cur, e', hg, rest⟩)⟩ := h
  · exact ⟨a, .inl c⟩
  · exact ⟨a, .inr ⟨g, cap, cur, e', Nat.le_trans hb hg, rest⟩⟩

theorem row_nil_len {w : World} {base : Nat} {e : TypeId} {sz n : Nat} {v : Value} {xs : List Value} (h : w.ownsRow base e sz v n xs) :
    ∃ (a : Option Addr) (c : Nat), v = .slice a n c ∧ (a = none ∧ n = 0 ∧ c = 0 ∨ ∃ g, a = some ⟨g, 0, none⟩) := by
  obtain ⟨a, (⟨c, hn⟩ | ⟨g', cap, cur, e', hg, hh, h1, h2, h3, h4⟩)⟩ := h
  · subst hn; exact ⟨none, 0, c, .inl ⟨rfl, rfl, rfl⟩⟩
  · exact ⟨_, _, e', .inr ⟨_, rfl⟩⟩
theorem row_some {w : World} {base : Nat} {e : TypeId} {sz n' n : Nat} {a : Option Addr} {c : Nat} {xs : List Value} (h : w.ownsRow base e sz (.slice a n' c) n xs) (hn : 0 < n) : ∃ g, a = some ⟨g, 0, none⟩ := by
  obtain ⟨g, cap, e', _⟩ := h.form hn
  simp at e'
  exact ⟨g, e'.1⟩
end Go.Proofs.Ytnenhecnkidnpaa
