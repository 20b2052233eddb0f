/- The arena as data: what each of its calls answers and leaves, and that it stays sound; no program is named. -/
import Derived.Test.YtnenhecnkidnpaaU
namespace Go.Proofs.Ytnenhecnkidnpaa
open Go.RowKit

structure PlaceV where
  var : Int
  lo : Nat
  hi : Nat
  taken : Bool
  count : Nat

structure ArenaV where
  places : Nat
  list : List PlaceV
  free : List Nat
  used : Nat

def PlaceV.flat (p : PlaceV) : List Value := [.int .i64 p.var, .int .u32 p.lo, .int .u32 p.hi, .bool p.taken, .int .u8 p.count]
def flatPlaces (l : List PlaceV) : List Value := l.flatMap PlaceV.flat
def flatRefs (l : List Nat) : List Value := l.map fun (r : Nat) => Value.int .u32 r

def ArenaV.tk (A : ArenaV) (r : Nat) : Bool := match A.list[r]? with | some p => p.taken | none => false
def ArenaV.checkE (A : ArenaV) (v : Int) (lo hi : Nat) : Int := if v < 0 ∨ 64 ≤ v then 2 else if A.tk lo = false ∨ A.tk hi = false then 3 else 0
def PlaceV.zero : PlaceV := ⟨0, 0, 0, false, 0⟩

structure ArenaV.Ok (A : ArenaV) : Prop where
  p2 : 2 ≤ A.places
  pm : A.places ≤ 1048576
  l2 : 2 ≤ A.list.length
  lp : A.list.length ≤ A.places
  nd : A.free.Nodup
  fr : ∀ r, r ∈ A.free ↔ ∃ p, A.list[r]? = some p ∧ p.taken = false
  us : A.used + A.free.length = A.list.length
  c0 : A.list[0]? = some ⟨-1, 0, 0, true, 255⟩
  c1 : A.list[1]? = some ⟨-1, 1, 1, true, 255⟩
  u32 : ∀ p, p ∈ A.list → p.lo ≤ 4294967295 ∧ p.hi ≤ 4294967295 ∧ p.count ≤ 255

def ArenaV.new (places : Nat) : ArenaV := ⟨places, [⟨-1, 0, 0, true, 255⟩, ⟨-1, 1, 1, true, 255⟩], [], 2⟩

theorem ArenaV.new_ok {n : Nat} (h2 : 2 ≤ n) (hm : n ≤ 1048576) : (ArenaV.new n).Ok := by
  refine ⟨h2, hm, by simp [ArenaV.new], by simpa [ArenaV.new] using h2, by simp [ArenaV.new], ?_, by simp [ArenaV.new], rfl, rfl, ?_⟩
  · intro r
    match r with
    | 0 => simp [ArenaV.new]
    | 1 => simp [ArenaV.new]
    | r + 2 => simp [ArenaV.new]
  · intro p hp
    simp [ArenaV.new] at hp
    rcases hp with rfl | rfl <;> simp

/-- A place that is free is taken: the free list is F ++ [r]. -/
def ArenaV.put (A : ArenaV) (F : List Nat) (r : Nat) (v : Int) (lo hi : Nat) : ArenaV := { A with list := A.list.set r ⟨v, lo, hi, true, 0⟩, free := F, used := A.used + 1 }
/-- A place that was never taken is taken. -/
def ArenaV.push (A : ArenaV) (v : Int) (lo hi : Nat) : ArenaV := { A with list := A.list ++ [⟨v, lo, hi, true, 0⟩], used := A.used + 1 }
def ArenaV.drop (A : ArenaV) (r : Nat) : ArenaV := { A with list := A.list.set r PlaceV.zero, free := A.free ++ [r], used := A.used - 1 }
def ArenaV.setNode (A : ArenaV) (r : Nat) (v : Int) (lo hi : Nat) : ArenaV :=
  { A with list := match A.list[r]? with | some p => A.list.set r { p with var := v, lo := lo, hi := hi } | none => A.list }

theorem ArenaV.tk_lt {A : ArenaV} {r : Nat} (h : A.tk r = true) : r < A.list.length := by
  unfold ArenaV.tk at h
  split at h
  · rename_i p hp; exact (List.getElem?_eq_some_iff.1 hp).1
  · simp at h

theorem ArenaV.tk_iff {A : ArenaV} {r : Nat} : A.tk r = true ↔ ∃ p, A.list[r]? = some p ∧ p.taken = true := by
  unfold ArenaV.tk
  split
  · rename_i p hp; simp [hp]
  · rename_i hp; simp [hp]

theorem ArenaV.Ok.tk01 {A : ArenaV} (h : A.Ok) : A.tk 0 = true ∧ A.tk 1 = true := by simp [ArenaV.tk, h.c0, h.c1]

theorem ArenaV.Ok.push {A : ArenaV} (h : A.Ok) (hl : A.list.length < A.places) {v : Int} {lo hi : Nat} (h1 : lo ≤ 4294967295) (h2 : hi ≤ 4294967295) : (A.push v lo hi).Ok := by
  have hl2 := h.l2
  refine ⟨h.p2, h.pm, by simp [ArenaV.push]; omega, by simp [ArenaV.push]; omega, h.nd, ?_, ?_, ?_, ?_, ?_⟩
  · intro r
    have := h.fr r
    simp only [ArenaV.push, List.getElem?_append]
    rw [this]
    split
    · rfl
    · rename_i hn
      rw [List.getElem?_eq_none (by omega)]
      simp only [List.getElem?_singleton]
      split <;> simp
  · have := h.us; simp [ArenaV.push]; omega
  · simp only [ArenaV.push]; rw [List.getElem?_append_left (by omega)]; exact h.c0
  · simp only [ArenaV.push]; rw [List.getElem?_append_left (by omega)]; exact h.c1
  · intro p hp
    simp [ArenaV.push] at hp
    rcases hp with hp | rfl
    · exact h.u32 p hp
    · exact ⟨h1, h2, by simp⟩

theorem mem_set_of {α : Type} {l : List α} {r : Nat} {x p : α} (h : p ∈ l.set r x) : p ∈ l ∨ p = x := by
  rcases List.mem_or_eq_of_mem_set h with h | h
  · exact .inl h
  · exact .inr h

theorem ArenaV.Ok.put {A : ArenaV} (h : A.Ok) {F : List Nat} {r : Nat} (hf : A.free = F ++ [r]) {v : Int} {lo hi : Nat} (h1 : lo ≤ 4294967295) (h2 : hi ≤ 4294967295) : (A.put F r v lo hi).Ok := by
  obtain ⟨p, hp, ht⟩ := (h.fr r).1 (by rw [hf]; simp)
  have hlt := (List.getElem?_eq_some_iff.1 hp).1
  have hnd := h.nd
  rw [hf, List.nodup_append] at hnd
  have hr0 : r ≠ 0 := by rintro rfl; rw [h.c0] at hp; cases hp; simp at ht
  have hr1 : r ≠ 1 := by rintro rfl; rw [h.c1] at hp; cases hp; simp at ht
  refine ⟨h.p2, h.pm, by simpa [ArenaV.put] using h.l2, by simpa [ArenaV.put] using h.lp, hnd.1, ?_, ?_, ?_, ?_, ?_⟩
  · intro x
    have hx := h.fr x
    simp only [ArenaV.put]
    by_cases e : x = r
    · subst e
      rw [List.getElem?_set_self hlt]
      constructor
      · intro hm; exact absurd rfl (hnd.2.2 x hm x (by simp))
      · rintro ⟨p, hp, ht⟩; cases hp; simp at ht
    · rw [List.getElem?_set_ne (Ne.symm e), ← hx, hf]
      simp [e]
  · have := h.us; rw [hf] at this; simp [ArenaV.put] at this ⊢; omega
  · simp only [ArenaV.put]; rw [List.getElem?_set_ne hr0]; exact h.c0
  · simp only [ArenaV.put]; rw [List.getElem?_set_ne hr1]; exact h.c1
  · intro p hp
    rcases mem_set_of hp with hp | rfl
    · exact h.u32 p hp
    · exact ⟨h1, h2, by simp⟩

theorem ArenaV.Ok.drop {A : ArenaV} (h : A.Ok) {r : Nat} (ht : A.tk r = true) (h0 : 2 ≤ r) : (A.drop r).Ok := by
  obtain ⟨p, hp, ht⟩ := ArenaV.tk_iff.1 ht
  have hlt := (List.getElem?_eq_some_iff.1 hp).1
  have hnf : r ∉ A.free := by
    intro hm
    obtain ⟨q, hq, hqt⟩ := (h.fr r).1 hm
    rw [hp] at hq; cases hq; simp [ht] at hqt
  have hfl : A.free.length < A.list.length := by
    have hsub : (r :: A.free).Nodup := List.nodup_cons.2 ⟨hnf, h.nd⟩
    have : (r :: A.free).length ≤ (List.range A.list.length).length := by
      refine List.Nodup.length_le_of_subset hsub ?_
      intro x hx
      simp at hx
      rcases hx with rfl | hx
      · simpa using hlt
      · obtain ⟨q, hq, _⟩ := (h.fr x).1 hx
        simpa using (List.getElem?_eq_some_iff.1 hq).1
    simp at this
    omega
  refine ⟨h.p2, h.pm, by simpa [ArenaV.drop] using h.l2, by simpa [ArenaV.drop] using h.lp, ?_, ?_, ?_, ?_, ?_, ?_⟩
  · simp only [ArenaV.drop]
    rw [List.nodup_append]
    refine ⟨h.nd, by simp, ?_⟩
    intro a ha b hb
    simp at hb; subst hb
    rintro rfl; exact hnf ha
  · intro x
    have hx := h.fr x
    simp only [ArenaV.drop]
    by_cases e : x = r
    · subst e
      rw [List.getElem?_set_self hlt]
      simp [PlaceV.zero]
    · rw [List.getElem?_set_ne (Ne.symm e), ← hx]
      simp [e]
  · have := h.us; simp [ArenaV.drop]; omega
  · simp only [ArenaV.drop]; rw [List.getElem?_set_ne (by omega)]; exact h.c0
  · simp only [ArenaV.drop]; rw [List.getElem?_set_ne (by omega)]; exact h.c1
  · intro p hp
    rcases mem_set_of hp with hp | rfl
    · exact h.u32 p hp
    · simp [PlaceV.zero]

theorem ArenaV.Ok.setNode {A : ArenaV} (h : A.Ok) {r : Nat} (h0 : 2 ≤ r) {v : Int} {lo hi : Nat} (h1 : lo ≤ 4294967295) (h2 : hi ≤ 4294967295) : (A.setNode r v lo hi).Ok := by
  unfold ArenaV.setNode
  cases hp : A.list[r]? with
  | none => simpa using h
  | some p =>
    have hlt := (List.getElem?_eq_some_iff.1 hp).1
    refine ⟨h.p2, h.pm, by simpa using h.l2, by simpa using h.lp, h.nd, ?_, by simpa using h.us, ?_, ?_, ?_⟩
    · intro x
      have hx := h.fr x
      by_cases e : x = r
      · subst e
        simp only
        rw [List.getElem?_set_self hlt, hx, hp]
        simp
      · simp only
        rw [List.getElem?_set_ne (Ne.symm e), ← hx]
    · simp only; rw [List.getElem?_set_ne (by omega)]; exact h.c0
    · simp only; rw [List.getElem?_set_ne (by omega)]; exact h.c1
    · intro q hq
      rcases mem_set_of hq with hq | rfl
      · exact h.u32 q hq
      · exact ⟨h1, h2, (h.u32 p (List.mem_of_getElem? hp)).2.2⟩

theorem flat_get : ∀ (l : List PlaceV) (r j : Nat), j < 5 → (flatPlaces l)[r * 5 + j]? = (l[r]?).bind (fun p => p.flat[j]?) := by
  intro l
  induction l with
  | nil => intro r j h; simp [flatPlaces]
  | cons p t ih =>
    intro r j h
    cases r with
    | zero => simp [flatPlaces, List.flatMap_cons]; rw [List.getElem?_append_left (by simpa [PlaceV.flat] using h)]
    | succ r =>
      have := ih r j h
      simp only [flatPlaces, List.flatMap_cons] at this ⊢
      rw [List.getElem?_append_right (by simp [PlaceV.flat]; omega)]
      simp [PlaceV.flat] at this ⊢
      rw [← this]
      congr 1
      omega

theorem flat_set : ∀ (l : List PlaceV) (r : Nat) (p : PlaceV), flatPlaces (l.set r p) =
    (((((flatPlaces l).set (r * 5) (.int .i64 p.var)).set (r * 5 + 1) (.int .u32 p.lo)).set (r * 5 + 2) (.int .u32 p.hi)).set (r * 5 + 3) (.bool p.taken)).set (r * 5 + 4) (.int .u8 p.count) := by
  intro l
  induction l with
  | nil => intro r p; simp [flatPlaces]
  | cons q t ih =>
    intro r p
    cases r with
    | zero => simp [flatPlaces, List.flatMap_cons, PlaceV.flat]
    | succ r =>
      have := ih r p
      have hh : ∀ (k : Nat), (r + 1) * 5 + k = (r * 5 + k) + 5 := by omega
      have h0 : (r + 1) * 5 = (r * 5) + 5 := by omega
      simp only [flatPlaces, List.set_cons_succ, List.flatMap_cons] at this ⊢
      rw [this, hh 1, hh 2, hh 3, hh 4, h0]
      simp [PlaceV.flat, List.set_cons_succ]

theorem flat_len (l : List PlaceV) : (flatPlaces l).length = l.length * 5 := by
  induction l with
  | nil => simp [flatPlaces]
  | cons p t ih => simp [flatPlaces, List.flatMap_cons, PlaceV.flat] at ih ⊢; omega

/-- A place's five cells are written. -/
abbrev set5 (w : World) (l r : Nat) (p : PlaceV) : World :=
  ((((w.setCell ⟨l, r * 5, none⟩ (.int .i64 p.var)).setCell ⟨l, r * 5 + 1, none⟩ (.int .u32 p.lo)).setCell ⟨l, r * 5 + 2, none⟩ (.int .u32 p.hi)).setCell ⟨l, r * 5 + 3, none⟩ (.bool p.taken)).setCell ⟨l, r * 5 + 4, none⟩ (.int .u8 p.count)

theorem set5_ne {w : World} {l r k : Nat} {p : PlaceV} (h : k ≠ l) : (set5 w l r p).heap[k]? = w.heap[k]? :=
  ((((heap_set_ne h).trans (heap_set_ne h)).trans (heap_set_ne h)).trans (heap_set_ne h)).trans (heap_set_ne h)
theorem set5_size {w : World} {l r : Nat} {p : PlaceV} : (set5 w l r p).heap.size = w.heap.size := by simp [World.setCell]
theorem Upd.set5 {S : List Nat} {w w' : World} (h : Upd S w w') {l : Nat} (hl : l ∈ S) (r : Nat) (p : PlaceV) : Upd S w (set5 w' l r p) :=
  ((((h.setCell (.inl hl) _).setCell (.inl hl) _).setCell (.inl hl) _).setCell (.inl hl) _).setCell (.inl hl) _

theorem row_place {w : World} {e : TypeId} {l n' c n r : Nat} {L : List PlaceV} (h : w.ownsRow 0 e 5 (.slice (some ⟨l, 0, none⟩) n' c) n (flatPlaces L)) (hr : r < n) (p : PlaceV) :
    (((((w.setCell ⟨l, r * 5, none⟩ (.int .i64 p.var)).setCell ⟨l, r * 5 + 1, none⟩ (.int .u32 p.lo)).setCell ⟨l, r * 5 + 2, none⟩ (.int .u32 p.hi)).setCell ⟨l, r * 5 + 3, none⟩ (.bool p.taken)).setCell ⟨l, r * 5 + 4, none⟩ (.int .u8 p.count)).ownsRow 0 e 5
      (.slice (some ⟨l, 0, none⟩) n' c) n (flatPlaces (L.set r p)) := by
  rw [flat_set]
  exact row_set (row_set (row_set (row_set (row_set h (by omega) _) (by omega) _) (by omega) _) (by omega) _) (by omega) _
end Go.Proofs.Ytnenhecnkidnpaa
