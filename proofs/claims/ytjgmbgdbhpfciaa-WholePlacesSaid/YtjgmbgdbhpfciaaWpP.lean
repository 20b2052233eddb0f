/- WholePlaces, the plain part: what the law's own lists say of the arena, and how the memory of its lists stands. -/
import Derived.Test.YtjgmbgdbhpfciaaArB
import Derived.Test.YtjgmbgdbhpfciaaArA
import Derived.Test.YtjgmbgdbhpfciaaArN
namespace Go.Proofs.Ytjgmbgdbhpfciaa
open Go.RowKit

def flatInts (V : List Int) : List Value := V.map fun (v : Int) => Value.int .i64 v

structure PlInv (n : Nat) (R : List Nat) (V : List Int) (A : ArenaV) : Prop where
  len : R.length = V.length
  nd : R.Nodup
  at_ : ∀ (j r : Nat), R[j]? = some r → ∃ v, V[j]? = some v ∧ A.list[r]? = some ⟨v, 0, 1, true, 0⟩ ∧ 2 ≤ r
  us : A.used = R.length + 2
  pl : A.places = n

theorem PlInv.new {n : Nat} : PlInv n [] [] (ArenaV.new n) := ⟨rfl, by simp, by simp, rfl, rfl⟩

theorem nodup_snoc {R : List Nat} {r : Nat} (h : R.Nodup) (hr : r ∉ R) : (R ++ [r]).Nodup := by
  rw [List.nodup_append]
  refine ⟨h, by simp, ?_⟩
  intro a ha b hb
  simp at hb; subst hb
  rintro rfl; exact hr ha

theorem PlInv.put {n : Nat} {R : List Nat} {V : List Int} {A : ArenaV} (h : PlInv n R V A) (ok : A.Ok) {fr : List Nat} {r : Nat} (hf : A.free = fr ++ [r]) (v : Int) :
    r ∉ R ∧ 2 ≤ r ∧ PlInv n (R ++ [r]) (V ++ [v]) (A.put fr r v 0 1) := by
  obtain ⟨p, hp, ht⟩ := (ok.fr r).1 (by rw [hf]; simp)
  have hlt := (List.getElem?_eq_some_iff.1 hp).1
  have hnr : r ∉ R := by
    intro hm
    obtain ⟨j, hj⟩ := List.mem_iff_getElem?.1 hm
    obtain ⟨v, _, h2, _⟩ := h.at_ j r hj
    rw [hp] at h2; cases h2; simp at ht
  have h2 : 2 ≤ r := by
    match r, hp, ht with
    | 0, hp, ht => rw [ok.c0] at hp; cases hp; simp at ht
    | 1, hp, ht => rw [ok.c1] at hp; cases hp; simp at ht
    | r + 2, _, _ => omega
  refine ⟨hnr, h2, by simp [h.len], nodup_snoc h.nd hnr, ?_, by simp [ArenaV.put, h.us], h.pl⟩
  intro j q hq
  rw [List.getElem?_append] at hq
  split at hq
  · rename_i hj
    obtain ⟨u, h1, h3, h4⟩ := h.at_ j q hq
    refine ⟨u, ?_, ?_, h4⟩
    · rw [List.getElem?_append_left (by rw [← h.len]; exact hj)]; exact h1
    · simp only [ArenaV.put]
      rw [List.getElem?_set_ne, h3]
      rintro rfl; exact hnr (List.mem_of_getElem? hq)
  · rename_i hj
    simp only [List.getElem?_singleton] at hq
    split at hq
    · cases hq
      refine ⟨v, ?_, ?_, h2⟩
      · rw [List.getElem?_append_right (by rw [← h.len]; omega), ← h.len]
        rename_i e; simp [e]
      · simp only [ArenaV.put]
        rw [List.getElem?_set_self hlt]
    · cases hq

theorem PlInv.push {n : Nat} {R : List Nat} {V : List Int} {A : ArenaV} (h : PlInv n R V A) (ok : A.Ok) (v : Int) :
    A.list.length ∉ R ∧ 2 ≤ A.list.length ∧ PlInv n (R ++ [A.list.length]) (V ++ [v]) (A.push v 0 1) := by
  have hlt : ∀ q, q ∈ R → q < A.list.length := by
    intro q hm
    obtain ⟨j, hj⟩ := List.mem_iff_getElem?.1 hm
    obtain ⟨v, _, h2, _⟩ := h.at_ j q hj
    exact (List.getElem?_eq_some_iff.1 h2).1
  have hnr : A.list.length ∉ R := fun hm => Nat.lt_irrefl _ (hlt _ hm)
  refine ⟨hnr, ok.l2, by simp [h.len], nodup_snoc h.nd hnr, ?_, by simp [ArenaV.push, h.us], h.pl⟩
  intro j q hq
  rw [List.getElem?_append] at hq
  split at hq
  · rename_i hj
    obtain ⟨u, h1, h3, h4⟩ := h.at_ j q hq
    refine ⟨u, ?_, ?_, h4⟩
    · rw [List.getElem?_append_left (by rw [← h.len]; exact hj)]; exact h1
    · simp only [ArenaV.push]
      rw [List.getElem?_append_left (hlt q (List.mem_of_getElem? hq)), h3]
  · rename_i hj
    simp only [List.getElem?_singleton] at hq
    split at hq
    · cases hq
      refine ⟨v, ?_, ?_, ok.l2⟩
      · rw [List.getElem?_append_right (by rw [← h.len]; omega), ← h.len]
        rename_i e; simp [e]
      · simp [ArenaV.push]
    · cases hq

/-- full just when as many are taken as there are -/
theorem PlInv.full {n : Nat} {R : List Nat} {V : List Int} {A : ArenaV} (h : PlInv n R V A) (ok : A.Ok) (hn : R.length + 2 = n) : A.free = [] ∧ A.places ≤ A.list.length := by
  have h1 := ok.us
  have h2 := ok.lp
  have h3 := h.us
  have h4 := h.pl
  have : A.free.length = 0 := by omega
  exact ⟨List.length_eq_zero_iff.1 this, by omega⟩
theorem PlInv.room {n : Nat} {R : List Nat} {V : List Int} {A : ArenaV} (h : PlInv n R V A) (ok : A.Ok) (hn : ¬ R.length + 2 = n) : (∃ fr r, A.free = fr ++ [r]) ∨ (A.free = [] ∧ A.list.length < A.places) := by
  rcases List.eq_nil_or_concat A.free with e | ⟨fr, r, e⟩
  · right
    have h1 := ok.us
    have h2 := ok.lp
    have h3 := h.us
    have h4 := h.pl
    rw [e] at h1
    simp at h1
    exact ⟨e, by omega⟩
  · left; exact ⟨fr, r, by rw [e]; simp⟩

def unplug {α : Type} (l : List α) (j : Nat) (x : α) : List α := (l.set j x).take (l.length - 1)

theorem PlInv.drop {n : Nat} {R : List Nat} {V : List Int} {A : ArenaV} (h : PlInv n R V A) {j r q : Nat} {u : Int} (hr : R[j]? = some r) (hq : R[R.length - 1]? = some q) (hu : V[V.length - 1]? = some u) :
    A.tk r = true ∧ 2 ≤ r ∧ (1 ≤ A.used → PlInv n (unplug R j q) (unplug V j u) (A.drop r)) := by
  obtain ⟨v, h1, h2, h3⟩ := h.at_ j r hr
  have hj := (List.getElem?_eq_some_iff.1 hr).1
  refine ⟨ArenaV.tk_iff.2 ⟨_, h2, rfl⟩, h3, fun hu1 => ?_⟩
  have hlen := h.len
  have key : ∀ (i x : Nat), (unplug R j q)[i]? = some x → ∃ i', i' ≠ j ∧ R[i']? = some x ∧ (unplug V j u)[i]? = V[i']? ∧ i' < R.length ∧ (i' = i ∨ (i = j ∧ i' = R.length - 1)) := by
    intro i x hx
    unfold unplug at hx ⊢
    rw [List.getElem?_take] at hx
    split at hx
    · rename_i hi
      by_cases e : j = i
      · subst e
        rw [List.getElem?_set_self hj] at hx
        refine ⟨R.length - 1, by omega, by rw [hq]; exact hx, ?_, by omega, .inr ⟨rfl, rfl⟩⟩
        rw [List.getElem?_take, if_pos (by omega), List.getElem?_set_self (by omega), hlen, hu]
      · rw [List.getElem?_set_ne e] at hx
        refine ⟨i, fun h => e h.symm, hx, ?_, by omega, .inl rfl⟩
        rw [List.getElem?_take, if_pos (by omega), List.getElem?_set_ne e]
    · cases hx
  have inj : ∀ (a b x : Nat), R[a]? = some x → R[b]? = some x → a = b := by
    intro a b x ha hb
    exact (List.getElem?_inj (List.getElem?_eq_some_iff.1 ha).1 h.nd).1 (ha.trans hb.symm)
  refine ⟨by simp [unplug, hlen], ?_, ?_, ?_, h.pl⟩
  · rw [List.nodup_iff_pairwise_ne, List.pairwise_iff_getElem]
    intro a b ha hb hab heq'
    have heq : (unplug R j q)[a]? = (unplug R j q)[b]? := by rw [List.getElem?_eq_getElem ha, List.getElem?_eq_getElem hb, heq']
    have hbx : (unplug R j q)[b]? = some (unplug R j q)[b] := List.getElem?_eq_getElem hb
    obtain ⟨a', ha1, ha2, _, _, ha3⟩ := key a _ (heq.trans hbx)
    obtain ⟨b', hb1, hb2, _, _, hb3⟩ := key b _ hbx
    have := inj a' b' _ ha2 hb2
    have hbl : b < R.length - 1 := by simpa [unplug] using hb
    omega
  · intro i x hx
    obtain ⟨i', hi1, hi2, hi3, _⟩ := key i x hx
    obtain ⟨v', g1, g2, g3⟩ := h.at_ i' x hi2
    refine ⟨v', by rw [hi3]; exact g1, ?_, g3⟩
    simp only [ArenaV.drop]
    rw [List.getElem?_set_ne, g2]
    rintro rfl
    exact hi1 (inj _ _ _ hi2 hr)
  · have := h.us
    simp [ArenaV.drop, unplug]
    omega

theorem drop_tk {A : ArenaV} {r : Nat} : (A.drop r).ownE r = 3 := by
  unfold ArenaV.ownE
  rw [if_neg]
  rintro ⟨_, h⟩
  obtain ⟨p, hp, ht⟩ := ArenaV.tk_iff.1 h
  simp only [ArenaV.drop] at hp
  have hlt := (List.getElem?_eq_some_iff.1 hp).1
  rw [List.getElem?_set_self (by simpa using hlt)] at hp
  cases hp; simp [PlaceV.zero] at ht

/-- How the law's memory stands: its arena, its two lists. -/
structure PlW (w wr : World) (s8 s9 : Value) (b : Nat) (R : List Nat) (V : List Int) (A : ArenaV) (F : List Nat) : Prop where
  ar : ArenaAt wr b A F
  r8 : wr.ownsRow w.heap.size 40 1 s8 R.length (flatRefs R)
  r9 : wr.ownsRow w.heap.size 3 1 s9 V.length (flatInts V)
  d8 : ∀ k, s8.ownBlock = some k → k ∉ F
  d9 : ∀ k, s9.ownBlock = some k → k ∉ F
  d89 : ∀ k, s8.ownBlock = some k → s9.ownBlock ≠ some k
  nw : ∀ k, k ∈ F → w.heap.size ≤ k
  up : Upd [] w wr

theorem PlW.arena {w wr w1 : World} {s8 s9 : Value} {b : Nat} {R : List Nat} {V : List Int} {A A' : ArenaV} {F F' : List Nat} (h : PlW w wr s8 s9 b R V A F)
    (ha : ArenaAt w1 b A' F') (hu : Upd F wr w1) (hs : Sub F wr F') : PlW w w1 s8 s9 b R V A' F' := by
  have hn : ∀ k, k < wr.heap.size → k ∉ F → k ∉ F' := fun k hk hf hf' => by rcases hs k hf' with h | h; exact hf h; omega
  refine ⟨ha, row_keep h.r8 fun k hk => hu.block k (h.r8.lt k hk).2 (h.d8 k hk), row_keep h.r9 fun k hk => hu.block k (h.r9.lt k hk).2 (h.d9 k hk),
    fun k hk => hn k (h.r8.lt k hk).2 (h.d8 k hk), fun k hk => hn k (h.r9.lt k hk).2 (h.d9 k hk), h.d89, ?_, h.up.then hu fun k hk => .inr (h.nw k hk)⟩
  intro k hk
  rcases hs k hk with h1 | h1
  · exact h.nw k h1
  · have := h.up.size; omega

theorem PlW.upd {w wr w1 : World} {s8 s9 : Value} {b : Nat} {R : List Nat} {V : List Int} {A : ArenaV} {F : List Nat} (h : PlW w wr s8 s9 b R V A F) (hu : Upd [] wr w1) : PlW w w1 s8 s9 b R V A F :=
  ⟨h.ar.upd hu (by simp), row_keep h.r8 fun k hk => hu.block k (h.r8.lt k hk).2 (by simp), row_keep h.r9 fun k hk => hu.block k (h.r9.lt k hk).2 (by simp), h.d8, h.d9, h.d89, h.nw, h.up.trans hu⟩

theorem PlW.app8 {w wr w2 : World} {s8 s9 : Value} {b g cap r : Nat} {R : List Nat} {V : List Int} {A : ArenaV} {F : List Nat} {X : Obj} (h : PlW w wr s8 s9 b R V A F)
    (hg : (wr.alloc X).grownBy w2 s8.ownBlock) (ho : w2.ownsRow w.heap.size 40 1 (.slice (some ⟨g, 0, none⟩) (R.length + 1) cap) (R.length + 1) (flatRefs R ++ [.int .u32 r]))
    (hat : s8.ownBlock = some g ∨ g = wr.heap.size + 1) : PlW w w2 (.slice (some ⟨g, 0, none⟩) (R.length + 1) cap) s9 b (R ++ [r]) V A F := by
  have hk : ∀ k, k < wr.heap.size → some k ≠ s8.ownBlock → w2.heap[k]? = wr.heap[k]? := fun k hk hn => by
    rw [hg.block k (by simp; omega) hn]; exact heap_alloc_old wr _ hk
  have hsz := h.up.size
  refine ⟨h.ar.keep fun k hk' => hk k (h.ar.lt k hk') (fun e => h.d8 k e.symm hk'), by simpa [flatRefs] using ho, row_keep h.r9 fun k hk' => hk k (h.r9.lt k hk').2 (fun e => h.d89 k e.symm hk'), ?_, h.d9, ?_, h.nw, ?_⟩
  · intro k hk'
    simp [Value.ownBlock] at hk'; subst hk'
    rcases hat with h1 | h1
    · exact h.d8 _ h1
    · intro hf; have := h.ar.lt _ hf; omega
  · intro k hk' h9
    simp [Value.ownBlock] at hk'; subst hk'
    rcases hat with h1 | h1
    · exact h.d89 _ h1 h9
    · have := (h.r9.lt _ h9).2; omega
  · exact (h.up.alloc X).grown hg fun k hk' => .inr (h.r8.lt k hk').1

theorem PlW.app9 {w wr w2 : World} {s8 s9 : Value} {b g cap : Nat} {v : Int} {R : List Nat} {V : List Int} {A : ArenaV} {F : List Nat} {X : Obj} (h : PlW w wr s8 s9 b R V A F)
    (hg : (wr.alloc X).grownBy w2 s9.ownBlock) (ho : w2.ownsRow w.heap.size 3 1 (.slice (some ⟨g, 0, none⟩) (V.length + 1) cap) (V.length + 1) (flatInts V ++ [.int .i64 v]))
    (hat : s9.ownBlock = some g ∨ g = wr.heap.size + 1) : PlW w w2 s8 (.slice (some ⟨g, 0, none⟩) (V.length + 1) cap) b R (V ++ [v]) A F := by
  have hk : ∀ k, k < wr.heap.size → some k ≠ s9.ownBlock → w2.heap[k]? = wr.heap[k]? := fun k hk hn => by
    rw [hg.block k (by simp; omega) hn]; exact heap_alloc_old wr _ hk
  have hsz := h.up.size
  refine ⟨h.ar.keep fun k hk' => hk k (h.ar.lt k hk') (fun e => h.d9 k e.symm hk'), row_keep h.r8 fun k hk' => hk k (h.r8.lt k hk').2 (fun e => h.d89 k hk' e.symm), by simpa [flatInts] using ho, h.d8, ?_, ?_, h.nw, ?_⟩
  · intro k hk'
    simp [Value.ownBlock] at hk'; subst hk'
    rcases hat with h1 | h1
    · exact h.d9 _ h1
    · intro hf; have := h.ar.lt _ hf; omega
  · intro k hk' h9
    simp [Value.ownBlock] at h9; subst h9
    rcases hat with h1 | h1
    · exact h.d89 _ hk' h1
    · have := (h.r8.lt _ hk').2; omega
  · exact (h.up.alloc X).grown hg fun k hk' => .inr (h.r9.lt k hk').1

theorem PlW.unplug {w wr : World} {b g8 c8 n8 g9 c9 n9 j q : Nat} {u : Int} {R : List Nat} {V : List Int} {A : ArenaV} {F : List Nat}
    (h : PlW w wr (.slice (some ⟨g8, 0, none⟩) n8 c8) (.slice (some ⟨g9, 0, none⟩) n9 c9) b R V A F) (hl : R.length = V.length) (hj : j < R.length) :
    PlW w ((wr.setCell ⟨g8, j, none⟩ (.int .u32 q)).setCell ⟨g9, j, none⟩ (.int .i64 u)) (.slice (some ⟨g8, 0, none⟩) (R.length - 1) c8) (.slice (some ⟨g9, 0, none⟩) (R.length - 1) c9) b (unplug R j q) (unplug V j u) A F := by
  have h89 : g8 ≠ g9 := by have := h.d89 g8 rfl; simp [Value.ownBlock] at this; exact fun e => this e.symm
  have hf8 := h.d8 g8 rfl
  have hf9 := h.d9 g9 rfl
  refine ⟨h.ar.keep fun k hk => ?_, ?_, ?_, h.d8, h.d9, h.d89, h.nw, (h.up.setCell (.inr (h.r8.lt g8 rfl).1) _).setCell (.inr (h.r9.lt g9 rfl).1) _⟩
  · rw [heap_set_ne (by rintro rfl; exact hf9 hk), heap_set_ne (by rintro rfl; exact hf8 hk)]
  · have := row_take (row_set h.r8 (j := j) (by omega) (.int .u32 q)) (m := R.length - 1) (by omega)
    have e : flatRefs (Go.Proofs.Ytjgmbgdbhpfciaa.unplug R j q) = ((flatRefs R).set j (.int .u32 q)).take ((R.length - 1) * 1) := by
      simp [Go.Proofs.Ytjgmbgdbhpfciaa.unplug, flatRefs, List.map_take, List.map_set]
    rw [e, show (Go.Proofs.Ytjgmbgdbhpfciaa.unplug R j q).length = R.length - 1 by simp [Go.Proofs.Ytjgmbgdbhpfciaa.unplug]]
    exact row_ne this (by simpa [Value.ownBlock] using Ne.symm h89) _
  · have := row_take (row_set (row_ne h.r9 (a := ⟨g8, j, none⟩) (by simpa [Value.ownBlock] using h89) (.int .u32 q)) (j := j) (by omega) (.int .i64 u)) (m := V.length - 1) (by omega)
    have e : flatInts (Go.Proofs.Ytjgmbgdbhpfciaa.unplug V j u) = ((flatInts V).set j (.int .i64 u)).take ((V.length - 1) * 1) := by
      simp [Go.Proofs.Ytjgmbgdbhpfciaa.unplug, flatInts, List.map_take, List.map_set]
    rw [e, show (Go.Proofs.Ytjgmbgdbhpfciaa.unplug V j u).length = V.length - 1 by simp [Go.Proofs.Ytjgmbgdbhpfciaa.unplug], hl]
    exact this
theorem PlW.unplug' {w wr : World} {b g8 c8 n8 g9 c9 n9 j q m : Nat} {u : Int} {R : List Nat} {V : List Int} {A : ArenaV} {F : List Nat}
    (h : PlW w wr (.slice (some ⟨g8, 0, none⟩) n8 c8) (.slice (some ⟨g9, 0, none⟩) n9 c9) b R V A F) (hl : R.length = V.length) (hm : R.length = m + 1) (hj : j < m + 1) :
    PlW w ((wr.setCell ⟨g8, j, none⟩ (.int .u32 q)).setCell ⟨g9, j, none⟩ (.int .i64 u)) (.slice (some ⟨g8, 0, none⟩) m c8) (.slice (some ⟨g9, 0, none⟩) m c9) b (Go.Proofs.Ytjgmbgdbhpfciaa.unplug R j q) (Go.Proofs.Ytjgmbgdbhpfciaa.unplug V j u) A F := by
  have := h.unplug (j := j) (q := q) (u := u) hl (by omega)
  rw [hm] at this
  exact this
end Go.Proofs.Ytjgmbgdbhpfciaa
