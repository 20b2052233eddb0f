/- The heap as data: a list of things with their keys, and what its order says; no program is named. -/
import Derived.Test.YtjgmbgdbhpfciaaMap
namespace Go.Proofs.Ytjgmbgdbhpfciaa
open Go.RowKit Go.Maps

/-- A thing with its key. -/
structure It where
  x : Int
  k : Int

def ahead (a b : It) : Bool := decide (a.k < b.k) || (decide (a.k = b.k) && decide (a.x < b.x))
/-- b does not go out ahead of a. -/
def le (a b : It) : Prop := ahead b a = false

theorem le_iff {a b : It} : le a b ↔ a.k < b.k ∨ (a.k = b.k ∧ a.x ≤ b.x) := by
  unfold le ahead
  simp
  omega
theorem ahead_iff {a b : It} : ahead a b = true ↔ a.k < b.k ∨ (a.k = b.k ∧ a.x < b.x) := by
  unfold ahead
  simp
theorem le_refl (a : It) : le a a := by rw [le_iff]; omega
theorem le_trans {a b c : It} (h : le a b) (h' : le b c) : le a c := by rw [le_iff] at *; omega
theorem le_of_ahead {a b : It} (h : ahead a b = true) : le a b := by rw [ahead_iff] at h; rw [le_iff]; omega

def LeAt (K : List It) (i j : Nat) : Prop := ∀ a b, K[i]? = some a → K[j]? = some b → le a b

/-- every thing but those at i and below i stands right; what is below i stands right to what is above i -/
structure Mid (K : List It) (i : Nat) : Prop where
  out : ∀ j, 0 < j → j ≠ i → (j - 1) / 2 ≠ i → LeAt K ((j - 1) / 2) j
  over : ∀ j, 0 < j → (j - 1) / 2 = i → 0 < i → LeAt K ((i - 1) / 2) j
def Below1 (K : List It) (i : Nat) : Prop := ∀ j, 0 < j → (j - 1) / 2 = i → LeAt K i j
def Above1 (K : List It) (i : Nat) : Prop := 0 < i → LeAt K ((i - 1) / 2) i
def Heap (K : List It) : Prop := ∀ j, 0 < j → LeAt K ((j - 1) / 2) j

theorem Heap.mid {K : List It} (h : Heap K) (i : Nat) : Mid K i :=
  ⟨fun j hj _ _ => h j hj, fun j hj hp hi a b ha hb => by
    obtain ⟨c, hc⟩ : ∃ c, K[i]? = some c := by
      have := (List.getElem?_eq_some_iff.1 hb).1
      exact ⟨_, List.getElem?_eq_getElem (by omega)⟩
    exact le_trans (h i hi a c ha hc) (h j hj c b (by rw [hp]; exact hc) hb)⟩
theorem Mid.heap {K : List It} {i : Nat} (h : Mid K i) (ha : Above1 K i) (hb : Below1 K i) : Heap K := by
  intro j hj
  by_cases e : j = i
  · subst e; exact ha hj
  · by_cases e2 : (j - 1) / 2 = i
    · rw [e2]; exact hb j hj e2
    · exact h.out j hj e e2
theorem Mid.ge {K : List It} {i : Nat} (h : Mid K i) (ha : Above1 K i) (hi : K.length ≤ 2 * i + 1) : Heap K :=
  h.heap ha fun j hj hp a b _ hb => by have := (List.getElem?_eq_some_iff.1 hb).1; omega

/-- a thing's key is changed: all else stands as it stood -/
theorem Heap.set_mid {K : List It} (h : Heap K) (i : Nat) (a : It) : Mid (K.set i a) i := by
  have m := h.mid i
  constructor
  · intro j hj h1 h2 x y hx hy
    rw [List.getElem?_set_ne (fun e => h2 e.symm)] at hx
    rw [List.getElem?_set_ne (fun e => h1 e.symm)] at hy
    exact h j hj x y hx hy
  · intro j hj hp hi x y hx hy
    rw [List.getElem?_set_ne (by omega)] at hx
    rw [List.getElem?_set_ne (by omega)] at hy
    exact m.over j hj hp hi x y hx hy

/-- a thing more at the end -/
theorem Heap.snoc {K : List It} (h : Heap K) (a : It) : Mid (K ++ [a]) K.length ∧ Below1 (K ++ [a]) K.length := by
  refine ⟨⟨?_, ?_⟩, ?_⟩
  · intro j hj h1 h2 x y hx hy
    have hjl := (List.getElem?_eq_some_iff.1 hy).1
    simp at hjl
    rw [List.getElem?_append_left (by omega)] at hx
    rw [List.getElem?_append_left (by omega)] at hy
    exact h j hj x y hx hy
  · intro j hj hp hi x y hx hy
    have hjl := (List.getElem?_eq_some_iff.1 hy).1
    simp at hjl
    omega
  · intro j hj hp x y hx hy
    have hjl := (List.getElem?_eq_some_iff.1 hy).1
    simp at hjl
    omega

/-- the things at i and p exchanged -/
def swp (K : List It) (i p : Nat) (a b : It) : List It := (K.set i b).set p a

theorem swp_get {K : List It} {i p : Nat} {a b : It} (hp : K[p]? = some b) (hi : K[i]? = some a) (hne : p ≠ i) (j : Nat) :
    (swp K i p a b)[j]? = if j = p then some a else if j = i then some b else K[j]? := by
  unfold swp
  have h1 := (List.getElem?_eq_some_iff.1 hp).1
  have h2 := (List.getElem?_eq_some_iff.1 hi).1
  by_cases e : j = p
  · subst e; rw [List.getElem?_set_self (by simpa using h1)]; simp
  · rw [List.getElem?_set_ne (Ne.symm e)]
    by_cases e2 : j = i
    · subst e2; rw [List.getElem?_set_self h2]; simp [e]
    · rw [List.getElem?_set_ne (Ne.symm e2)]; simp [e, e2]

/-- one step up -/
theorem Mid.up {K : List It} {i : Nat} {a b : It} (h : Mid K i) (hi0 : 0 < i) (hi : K[i]? = some a) (hp : K[(i - 1) / 2]? = some b) (hab : ahead a b = true) :
    Mid (swp K i ((i - 1) / 2) a b) ((i - 1) / 2) ∧ Below1 (swp K i ((i - 1) / 2) a b) ((i - 1) / 2) := by
  have hne : (i - 1) / 2 ≠ i := by omega
  have hle := le_of_ahead hab
  have g := swp_get hp hi hne
  refine ⟨⟨?_, ?_⟩, ?_⟩
  · intro j hj h1 h2 x y hx hy
    rw [g] at hx hy
    rw [if_neg h2] at hx
    rw [if_neg h1] at hy
    by_cases e : j = i
    · omega
    · rw [if_neg e] at hy
      by_cases e2 : (j - 1) / 2 = i
      · rw [if_pos e2] at hx; cases hx
        exact h.over j hj e2 hi0 _ _ hp hy
      · rw [if_neg e2] at hx
        exact h.out j hj e e2 _ _ hx hy
  · intro j hj hjp hpp x y hx hy
    rw [g] at hx hy
    rw [if_neg (by omega), if_neg (by omega)] at hx
    rw [if_neg (by omega)] at hy
    have hpb := h.out ((i - 1) / 2) hpp hne (by omega) _ _ hx hp
    by_cases e : j = i
    · rw [if_pos e] at hy; cases hy; exact hpb
    · rw [if_neg e] at hy
      exact le_trans hpb (h.out j hj e (by omega) _ _ (by rw [hjp]; exact hp) hy)
  · intro j hj hjp x y hx hy
    rw [g, if_pos rfl] at hx; cases hx
    rw [g, if_neg (by omega)] at hy
    by_cases e : j = i
    · rw [if_pos e] at hy; cases hy; exact hle
    · rw [if_neg e] at hy
      exact le_trans hle (h.out j hj e (by omega) _ _ (by rw [hjp]; exact hp) hy)

/-- one step down: c is the lesser child -/
theorem Mid.down {K : List It} {i c : Nat} {a b : It} (h : Mid K i) (ha : Above1 K i) (hc : 0 < c) (hci : (c - 1) / 2 = i) (hi : K[i]? = some a) (hp : K[c]? = some b) (hba : ahead b a = true)
    (hl : ∀ j, 0 < j → (j - 1) / 2 = i → LeAt K c j) :
    Mid (swp K i c a b) c ∧ Above1 (swp K i c a b) c := by
  have hne : c ≠ i := by omega
  have hle := le_of_ahead hba
  have g := swp_get hp hi hne
  refine ⟨⟨?_, ?_⟩, ?_⟩
  · intro j hj h1 h2 x y hx hy
    rw [g] at hx hy
    rw [if_neg h2] at hx
    rw [if_neg h1] at hy
    by_cases e : j = i
    · subst e
      rw [if_pos rfl] at hy; cases hy
      rw [if_neg (by omega)] at hx
      exact h.over c hc hci hj _ _ hx hp
    · rw [if_neg e] at hy
      by_cases e2 : (j - 1) / 2 = i
      · rw [if_pos e2] at hx; cases hx
        exact hl j hj e2 _ _ hp hy
      · rw [if_neg e2] at hx
        exact h.out j hj e e2 _ _ hx hy
  · intro j hj hjc hc0 x y hx hy
    rw [hci, g, if_neg (Ne.symm hne), if_pos rfl] at hx; cases hx
    rw [g, if_neg (by omega), if_neg (by omega)] at hy
    exact h.out j hj (by omega) (by omega) _ _ (by rw [hjc]; exact hp) hy
  · intro _ x y hx hy
    rw [hci, g, if_neg (Ne.symm hne), if_pos rfl] at hx; cases hx
    rw [g, if_pos rfl] at hy; cases hy
    exact hle

theorem swp_len {K : List It} {i p : Nat} {a b : It} : (swp K i p a b).length = K.length := by simp [swp]

theorem set_perm {K : List It} {i : Nat} {a b : It} (hi : K[i]? = some a) : (b :: K).Perm (a :: K.set i b) := by
  induction K generalizing i with
  | nil => simp at hi
  | cons x t ih =>
    cases i with
    | zero => simp at hi; subst hi; exact List.Perm.swap _ _ _
    | succ i =>
      simp at hi
      simp only [List.set_cons_succ]
      exact (List.Perm.swap x b t).trans (((ih hi).cons x).trans (List.Perm.swap a x _))

theorem swp_perm {K : List It} {i p : Nat} {a b : It} (hp : K[p]? = some b) (hi : K[i]? = some a) (hne : p ≠ i) : (swp K i p a b).Perm K := by
  unfold swp
  have h1 := set_perm (b := b) hi
  have h2 : ((K.set i b)[p]?) = some b := by rw [List.getElem?_set_ne (Ne.symm hne)]; exact hp
  have h3 := set_perm (b := a) h2
  exact ((List.perm_cons b).1 (h1.trans h3)).symm

/-- the thing at the front is the least -/
theorem Heap.least {K : List It} (h : Heap K) {a : It} (h0 : K[0]? = some a) : ∀ (j : Nat) (b : It), K[j]? = some b → le a b := by
  intro j
  induction j using Nat.strongRecOn with
  | _ j ih =>
    intro b hb
    by_cases e : j = 0
    · subst e; rw [h0] at hb; cases hb; exact le_refl _
    · have hlt := (List.getElem?_eq_some_iff.1 hb).1
      obtain ⟨c, hc⟩ : ∃ c, K[(j - 1) / 2]? = some c := ⟨_, List.getElem?_eq_getElem (by omega)⟩
      exact le_trans (ih _ (by omega) c hc) (h j (by omega) c b hc hb)
end Go.Proofs.Ytjgmbgdbhpfciaa
