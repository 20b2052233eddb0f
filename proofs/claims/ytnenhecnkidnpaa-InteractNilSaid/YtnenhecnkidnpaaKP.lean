/- The kernel's store as data: nodes, how often each is used and held, and what is sound about it; no program is named. -/
import Derived.Test.YtnenhecnkidnpaaArP
namespace Go.Proofs.Ytnenhecnkidnpaa
open Go.RowKit

structure KV where
  A : ArenaV
  uses : List Nat
  holds : List Nat
  vars : Nat
  order : List Nat
  level : List Nat
  trail : List Nat

/-- how often a node has r for a child -/
def cnt (p : PlaceV) (r : Nat) : Nat := if p.taken then (if p.lo = r then 1 else 0) + (if p.hi = r then 1 else 0) else 0
def par (L : List PlaceV) (r : Nat) : Nat := (L.map fun p => cnt p r).sum
def KV.use (K : KV) (r : Nat) : Nat := K.uses.getD r 0
def KV.hold (K : KV) (r : Nat) : Nat := K.holds.getD r 0
def one (n : Nat) : Nat := if 0 < n then 1 else 0

theorem par_append (L M : List PlaceV) (r : Nat) : par (L ++ M) r = par L r + par M r := by simp [par]
theorem par_set {L : List PlaceV} {i : Nat} {p q : PlaceV} (h : L[i]? = some p) (r : Nat) : par (L.set i q) r + cnt p r = par L r + cnt q r := by
  induction L generalizing i with
  | nil => simp at h
  | cons x t ih =>
    cases i with
    | zero => simp at h; subst h; simp [par]; omega
    | succ i =>
      simp at h
      have := ih h
      simp [par] at this ⊢
      omega
theorem par_le (L : List PlaceV) (r : Nat) : par L r ≤ 2 * L.length := by
  induction L with
  | nil => simp [par]
  | cons x t ih =>
    have : cnt x r ≤ 2 := by unfold cnt; split <;> (try split) <;> (try split) <;> omega
    simp [par] at ih ⊢
    omega
theorem par_pos {L : List PlaceV} {r : Nat} (h : 0 < par L r) : ∃ (q : Nat) (p : PlaceV), L[q]? = some p ∧ p.taken = true ∧ (p.lo = r ∨ p.hi = r) := by
  induction L with
  | nil => simp [par] at h
  | cons x t ih =>
    by_cases hx : 0 < cnt x r
    · refine ⟨0, x, rfl, ?_⟩
      unfold cnt at hx
      split at hx
      · rename_i ht
        refine ⟨ht, ?_⟩
        by_cases h1 : x.lo = r
        · exact .inl h1
        · by_cases h2 : x.hi = r
          · exact .inr h2
          · simp [h1, h2] at hx
      · omega
    · have : 0 < par t r := by simp [par] at h ⊢; omega
      obtain ⟨q, p, h1, h2⟩ := ih this
      exact ⟨q + 1, p, h1, h2⟩
theorem par_zero {L : List PlaceV} {r : Nat} (h : ∀ (q : Nat) (p : PlaceV), L[q]? = some p → p.taken = true → p.lo ≠ r ∧ p.hi ≠ r) : par L r = 0 := by
  rcases Nat.eq_zero_or_pos (par L r) with h0 | h0
  · exact h0
  · obtain ⟨q, p, h1, h2, h3⟩ := par_pos h0
    have := h q p h1 h2
    rcases h3 with h3 | h3
    · exact absurd h3 this.1
    · exact absurd h3 this.2

structure KV.Wf (K : KV) (pend : List Nat) : Prop where
  ok : K.A.Ok
  len : K.holds.length = K.uses.length
  ul : K.uses.length ≤ K.A.list.length
  tu : ∀ r, 2 ≤ r → K.A.tk r = true → r < K.uses.length
  ht : ∀ r, 0 < K.hold r → 2 ≤ r ∧ K.A.tk r = true
  hm : ∀ r, K.hold r ≤ 65535
  eq : ∀ r, 2 ≤ r → K.A.tk r = true → K.use r = par K.A.list r + one (K.hold r) + pend.count r
  pt : ∀ r, r ∈ pend → K.A.tk r = true
  cl : ∀ (q : Nat) p, 2 ≤ q → K.A.list[q]? = some p → p.taken = true → K.A.tk p.lo = true ∧ K.A.tk p.hi = true
  vr : ∀ (q : Nat) p, 2 ≤ q → K.A.list[q]? = some p → p.taken = true → 0 ≤ p.var ∧ p.var < K.vars
  vs : 1 ≤ K.vars ∧ K.vars ≤ 64

/-- everything is used -/
def KV.Pos (K : KV) : Prop := ∀ r, 2 ≤ r → K.A.tk r = true → 0 < K.use r

theorem getD_set {l : List Nat} {i j x : Nat} (h : i < l.length) : (l.set i x).getD j 0 = if j = i then x else l.getD j 0 := by
  rw [List.getD_eq_getElem?_getD, List.getD_eq_getElem?_getD]
  by_cases e : j = i
  · subst e; rw [List.getElem?_set_self h]; simp
  · rw [List.getElem?_set_ne (Ne.symm e)]; simp [e]

theorem KV.Wf.cnt01 {K : KV} {pend : List Nat} (h : K.Wf pend) {r : Nat} (hr : 2 ≤ r) : ∀ (q : Nat) p, q < 2 → K.A.list[q]? = some p → cnt p r = 0 := by
  intro q p hq hp
  match q, hq with
  | 0, _ => rw [h.ok.c0] at hp; cases hp; simp [cnt]; omega
  | 1, _ => rw [h.ok.c1] at hp; cases hp; simp [cnt]; omega

theorem KV.Wf.use_le {K : KV} {pend : List Nat} (h : K.Wf pend) {r : Nat} (hr : 2 ≤ r) (ht : K.A.tk r = true) : K.use r ≤ 2097153 + pend.length := by
  rw [h.eq r hr ht]
  have h1 := par_le K.A.list r
  have h2 := h.ok.lp
  have h3 := h.ok.pm
  have h4 : pend.count r ≤ pend.length := List.count_le_length
  have h5 : one (K.hold r) ≤ 1 := by unfold one; split <;> omega
  omega

/-- one more uses r, and it is remembered who -/
def KV.useK (K : KV) (r : Nat) : KV := { K with uses := K.uses.set r (K.use r + 1) }

theorem KV.Wf.useK {K : KV} {pend : List Nat} (h : K.Wf pend) {r : Nat} (hr : 2 ≤ r) (ht : K.A.tk r = true) : (K.useK r).Wf (r :: pend) := by
  have hl := h.tu r hr ht
  refine ⟨h.ok, by simpa [KV.useK] using h.len, by simpa [KV.useK] using h.ul, by simpa [KV.useK] using h.tu, h.ht, h.hm, ?_, ?_, h.cl, h.vr, h.vs⟩
  · intro x hx htx
    have he := h.eq x hx htx
    show (K.uses.set r (K.use r + 1)).getD x 0 = _
    rw [getD_set hl, List.count_cons]
    by_cases e : x = r
    · subst e
      rw [if_pos rfl]
      show K.use x + 1 = par K.A.list x + one (K.hold x) + _
      simp; omega
    · rw [if_neg e]
      show K.use x = par K.A.list x + one (K.hold x) + _
      rw [he]
      simp [Ne.symm e]
  · intro x hx
    simp at hx
    rcases hx with rfl | hx
    · exact ht
    · exact h.pt x hx

theorem KV.Wf.pend01 {K : KV} {pend : List Nat} (h : K.Wf pend) {r : Nat} (hr : r < 2) : K.Wf (r :: pend) := by
  refine ⟨h.ok, h.len, h.ul, h.tu, h.ht, h.hm, ?_, ?_, h.cl, h.vr, h.vs⟩
  · intro x hx htx
    rw [h.eq x hx htx, List.count_cons]
    have : ¬ r = x := by omega
    simp [this]
  · intro x hx
    simp at hx
    rcases hx with rfl | hx
    · have := h.ok.tk01
      match x, hr with
      | 0, _ => exact this.1
      | 1, _ => exact this.2
    · exact h.pt x hx

theorem KV.Wf.unpend01 {K : KV} {pend : List Nat} {r : Nat} (h : K.Wf (r :: pend)) (hr : r < 2) : K.Wf pend := by
  refine ⟨h.ok, h.len, h.ul, h.tu, h.ht, h.hm, ?_, fun x hx => h.pt x (by simp [hx]), h.cl, h.vr, h.vs⟩
  intro x hx htx
  rw [h.eq x hx htx, List.count_cons]
  have : ¬ r = x := by omega
  simp [this]

theorem KV.Wf.perm {K : KV} {p q : List Nat} (h : K.Wf p) (hp : p.Perm q) : K.Wf q :=
  ⟨h.ok, h.len, h.ul, h.tu, h.ht, h.hm, fun x hx htx => by rw [h.eq x hx htx, hp.count_eq], fun x hx => h.pt x (hp.symm.subset hx), h.cl, h.vr, h.vs⟩

/-- one less uses r, but somebody still does -/
def KV.less (K : KV) (r : Nat) : KV := { K with uses := K.uses.set r (K.use r - 1) }

theorem KV.Wf.less {K : KV} {pend : List Nat} {r : Nat} (h : K.Wf (r :: pend)) (hr : 2 ≤ r) : (K.less r).Wf pend := by
  have ht := h.pt r (by simp)
  have hl := h.tu r hr ht
  refine ⟨h.ok, by simpa [KV.less] using h.len, by simpa [KV.less] using h.ul, by simpa [KV.less] using h.tu, h.ht, h.hm, ?_, fun x hx => h.pt x (by simp [hx]), h.cl, h.vr, h.vs⟩
  intro x hx htx
  have he := h.eq x hx htx
  show (K.uses.set r (K.use r - 1)).getD x 0 = _
  rw [getD_set hl]
  rw [List.count_cons] at he
  by_cases e : x = r
  · subst e
    rw [if_pos rfl]
    show K.use x - 1 = par K.A.list x + one (K.hold x) + _
    simp at he; omega
  · rw [if_neg e]
    show K.use x = par K.A.list x + one (K.hold x) + _
    rw [he]
    simp [Ne.symm e]

/-- nobody uses r any more: it is freed, and what is below it is pending -/
def KV.gone (K : KV) (r : Nat) : KV := { K with A := K.A.drop r, uses := K.uses.set r 0 }

theorem tk_drop {A : ArenaV} {r x : Nat} (h : r < A.list.length) : (A.drop r).tk x = if x = r then false else A.tk x := by
  unfold ArenaV.tk ArenaV.drop
  by_cases e : x = r
  · subst e; simp [List.getElem?_set_self h, PlaceV.zero]
  · simp [List.getElem?_set_ne (Ne.symm e), e]

theorem KV.Wf.gone {K : KV} {pend : List Nat} {r : Nat} {p : PlaceV} (h : K.Wf (r :: pend)) (hr : 2 ≤ r) (hu : K.use r = 1) (hp : K.A.list[r]? = some p) (hpt : p.taken = true) :
    (K.gone r).Wf (p.lo :: p.hi :: pend) := by
  have ht := h.pt r (by simp)
  have hl := h.tu r hr ht
  have hlt := (List.getElem?_eq_some_iff.1 hp).1
  have he := h.eq r hr ht
  rw [hu, List.count_cons] at he
  simp at he
  have hpar : par K.A.list r = 0 := by omega
  have hhold : one (K.hold r) = 0 := by omega
  have hpc : pend.count r = 0 := by omega
  have hnp : ∀ (q : Nat) c, K.A.list[q]? = some c → c.taken = true → c.lo ≠ r ∧ c.hi ≠ r := by
    intro q c hc hct
    have : cnt c r ≤ par K.A.list r := by
      have h1 := par_set (q := PlaceV.zero) hc r
      have : cnt PlaceV.zero r = 0 := by simp [cnt, PlaceV.zero]
      omega
    have h0 : cnt c r = 0 := by omega
    unfold cnt at h0
    rw [if_pos hct] at h0
    constructor
    · intro e; rw [if_pos e] at h0; omega
    · intro e; rw [if_pos e] at h0; omega
  have hcl := h.cl r p hr hp hpt
  have htk : ∀ x, (K.gone r).A.tk x = if x = r then false else K.A.tk x := fun x => tk_drop hlt
  have hzero : K.hold r = 0 := by unfold one at hhold; split at hhold <;> omega
  refine ⟨h.ok.drop ht hr, by simpa [KV.gone] using h.len, by simpa [KV.gone, ArenaV.drop] using h.ul, ?_, ?_, h.hm, ?_, ?_, ?_, ?_, h.vs⟩
  · intro x hx htx
    rw [htk] at htx
    split at htx
    · cases htx
    · simpa [KV.gone] using h.tu x hx htx
  · intro x hx
    have hx' : 0 < K.hold x := hx
    obtain ⟨g1, g2⟩ := h.ht x hx'
    refine ⟨g1, ?_⟩
    rw [htk, if_neg (by rintro rfl; omega)]; exact g2
  · intro x hx htx
    rw [htk] at htx
    split at htx
    · cases htx
    · rename_i e
      have he := h.eq x hx htx
      show (K.uses.set r 0).getD x 0 = _
      rw [getD_set hl, if_neg e]
      show K.use x = par (K.A.list.set r PlaceV.zero) x + one (K.hold x) + _
      have h1 := par_set (q := PlaceV.zero) hp x
      have h2 : cnt PlaceV.zero x = 0 := by simp [cnt, PlaceV.zero]
      have h3 : cnt p x = (if p.lo = x then 1 else 0) + (if p.hi = x then 1 else 0) := by simp [cnt, hpt]
      rw [List.count_cons] at he
      rw [List.count_cons, List.count_cons]
      have e' : ¬ r = x := fun h => e h.symm
      simp [e'] at he
      simp only [beq_iff_eq]
      omega
  · intro x hx
    rw [htk]
    have hne : x ≠ r := by
      rintro rfl
      simp at hx
      rcases hx with hx | hx | hx
      · exact (hnp x p hp hpt).1 hx.symm
      · exact (hnp x p hp hpt).2 hx.symm
      · have := List.count_pos_iff.2 hx; omega
    rw [if_neg hne]
    simp at hx
    rcases hx with rfl | rfl | hx
    · exact hcl.1
    · exact hcl.2
    · exact h.pt x (by simp [hx])
  · intro q c hq hc hct
    by_cases e : q = r
    · subst e
      simp only [KV.gone, ArenaV.drop] at hc
      rw [List.getElem?_set_self hlt] at hc; cases hc; simp [PlaceV.zero] at hct
    · simp only [KV.gone, ArenaV.drop] at hc
      rw [List.getElem?_set_ne (Ne.symm e)] at hc
      obtain ⟨g1, g2⟩ := h.cl q c hq hc hct
      obtain ⟨g3, g4⟩ := hnp q c hc hct
      rw [htk, htk, if_neg g3, if_neg g4]
      exact ⟨g1, g2⟩
  · intro q c hq hc hct
    by_cases e : q = r
    · subst e
      simp only [KV.gone, ArenaV.drop] at hc
      rw [List.getElem?_set_self hlt] at hc; cases hc; simp [PlaceV.zero] at hct
    · simp only [KV.gone, ArenaV.drop] at hc
      rw [List.getElem?_set_ne (Ne.symm e)] at hc
      exact h.vr q c hq hc hct
end Go.Proofs.Ytnenhecnkidnpaa
