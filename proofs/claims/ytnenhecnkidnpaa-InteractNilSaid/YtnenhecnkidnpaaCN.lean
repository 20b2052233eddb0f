/- How many nodes there are; the functions below a function; the first example, as data. -/
import Derived.Test.YtnenhecnkidnpaaBO
namespace Go.Proofs.Ytnenhecnkidnpaa

/-- what is live -/
def KV.lives (K : KV) : List Nat := (List.range K.A.list.length).filter fun r => K.A.tk r

theorem KV.mem_lives {K : KV} {x : Nat} : x ∈ K.lives ↔ K.A.tk x = true := by
  simp only [KV.lives, List.mem_filter, List.mem_range]
  exact ⟨fun h => h.2, fun h => ⟨ArenaV.tk_lt h, h⟩⟩

theorem KV.lives_nodup (K : KV) : K.lives.Nodup := List.Pairwise.filter _ List.nodup_range

theorem KV.lives_len {K : KV} {P : List Nat} (h : K.Wf P) : K.lives.length = K.A.used := by
  have hus := h.ok.us
  have e1 : K.A.free.length = ((List.range K.A.list.length).filter fun r => !(K.A.tk r)).length := by
    have hfr : ∀ r, r ∈ K.A.free ↔ r ∈ (List.range K.A.list.length).filter fun r => !(K.A.tk r) := by
      intro r
      rw [h.ok.fr r, List.mem_filter, List.mem_range]
      constructor
      · rintro ⟨p, hp, hpt⟩
        refine ⟨(List.getElem?_eq_some_iff.1 hp).1, ?_⟩
        simp [ArenaV.tk, hp, hpt]
      · rintro ⟨hl, ht⟩
        refine ⟨K.A.list[r], List.getElem?_eq_getElem hl, ?_⟩
        simpa [ArenaV.tk, List.getElem?_eq_getElem hl] using ht
    refine Nat.le_antisymm ?_ ?_
    · exact List.Nodup.length_le_of_subset h.ok.nd fun r hr => (hfr r).1 hr
    · exact List.Nodup.length_le_of_subset (List.Pairwise.filter _ List.nodup_range) fun r hr => (hfr r).2 hr
  have e2 : (List.range K.A.list.length).length = K.lives.length + ((List.range K.A.list.length).filter fun r => !(K.A.tk r)).length := by
    rw [KV.lives, ← List.countP_eq_length_filter, ← List.countP_eq_length_filter]
    have hh := List.length_eq_countP_add_countP (fun r => K.A.tk r) (l := List.range K.A.list.length)
    rw [hh]
    congr 2
    funext a
    cases K.A.tk a <;> rfl
  rw [List.length_range] at e2
  omega

theorem KV.used_le {K : KV} {P : List Nat} (h : K.Wf P) {l : List Nat} (hl : ∀ x, K.A.tk x = true → x ∈ l) : K.A.used ≤ l.length := by
  rw [← K.lives_len h]
  exact List.Nodup.length_le_of_subset K.lives_nodup fun x hx => hl x (KV.mem_lives.1 hx)

theorem KV.used_ge {K : KV} {P : List Nat} (h : K.Wf P) {l : List Nat} (hn : l.Nodup) (hl : ∀ x, x ∈ l → K.A.tk x = true) : l.length ≤ K.A.used := by
  rw [← K.lives_len h]
  exact List.Nodup.length_le_of_subset hn fun x hx => KV.mem_lives.2 (hl x hx)

/-- What is below a live function is live. -/
theorem KV.sub_live {K : KV} (hk : K.Ok) (l : Nat) (a : Nat → Bool) : ∀ (n r : Nat), K.vars - K.dep r ≤ n → K.A.tk r = true → ∃ x, K.A.tk x = true ∧ ∀ y, K.den x y = K.den r (K.mix l a y)
  | n, r, hn, ht => by
    by_cases hl : l ≤ K.dep r
    · refine ⟨r, ht, fun y => KV.den_same hk.wf hk.ord _ r _ _ ht (Nat.le_refl _) fun v hv hd => ?_⟩
      simp only [KV.mix]
      rw [if_neg (by omega)]
    · by_cases h2 : 2 ≤ r
      · obtain ⟨p, v, hp, hpt, hv, hvl, h3, h4, hd⟩ := hk.wf.node_at h2 ht
        have hb := hk.ord.below hk.wf h2 hp hpt
        have hdl := hk.wf.dep_lt hk.ord h2 ht
        have hlo := hk.wf.dep_le hk.ord h3
        have hhi := hk.wf.dep_le hk.ord h4
        match n, hn with
        | 0, hn => omega
        | n + 1, hn =>
          have em : ∀ y, K.mix l a y v = a v := fun y => by simp only [KV.mix]; rw [if_pos ⟨hvl, by omega⟩]
          have e : ∀ y, K.den r (K.mix l a y) = if a v then K.den p.hi (K.mix l a y) else K.den p.lo (K.mix l a y) := fun y => by
            rw [KV.den_node hk.wf hk.ord h2 hp hpt, show p.var.toNat = v by omega, em]
          cases ha : a v with
          | true =>
            obtain ⟨x, tx, hx⟩ := KV.sub_live hk l a n p.hi (by omega) h4
            exact ⟨x, tx, fun y => by rw [hx, e, ha]; simp⟩
          | false =>
            obtain ⟨x, tx, hx⟩ := KV.sub_live hk l a n p.lo (by omega) h3
            exact ⟨x, tx, fun y => by rw [hx, e, ha]; simp⟩
      · refine ⟨r, ht, fun y => ?_⟩
        rw [K.den_const (by omega), K.den_const (by omega)]

/-- where t is live there is always room for it -/
theorem KV.fit_live {K0 : KV} (h0 : K0.Ok) {t : (Nat → Bool) → Bool} {r : Nat} (ht : K0.A.tk r = true) (hd : ∀ x, K0.den r x = t x) : ¬ NoFit K0 (K0.SubN t) := by
  rintro ⟨K, M, g, hk, hu, R, hus, ⟨l, a, hg⟩, hno⟩
  obtain ⟨x, tx, hx⟩ := KV.sub_live h0 l a _ r (Nat.le_refl _) ht
  refine hno x (R.ext.tk tx) fun y => ?_
  rw [R.ext.den h0.wf y tx, hx, hd, hg]

/-- Where t is live, and not held as often as can be, the answer is t's Ref. -/
theorem OpR.live {K0 K' : KV} (h0 : K0.Ok) (h' : K'.Ok) (u' : K'.Uni) {t : (Nat → Bool) → Bool} {s r : Nat} {code : Int} (O : OpR K0 t r code K') (u0 : K0.Uni) (ht : K0.A.tk s = true) (hd : ∀ x, K0.den s x = t x) (hh : K0.hold s < 65535) :
    code = 0 ∧ r = s ∧ OpOk K0 t s K' := by
  rcases O with ⟨rfl, hO⟩ | ⟨_, _, _, s', t', d', f'⟩ | ⟨_, _, _, hno⟩
  · have : r = s := KV.canon h'.wf h'.ord u' _ _ _ hO.tk (hO.ext.tk ht) (Nat.le_refl _) fun x => by rw [hO.den, hO.ext.den h0.wf x ht, hd]
    subst this
    exact ⟨rfl, rfl, hO⟩
  · exfalso
    have : s' = s := KV.canon h0.wf h0.ord u0 _ _ _ t' ht (Nat.le_refl _) fun x => by rw [d', hd]
    subst this
    omega
  · exact (KV.fit_live h0 ht hd hno).elim

/-- Where t is live, nothing new stands behind it. -/
theorem OpOk.same {K0 K' : KV} (h0 : K0.Ok) (h' : K'.Ok) (u' : K'.Uni) {t : (Nat → Bool) → Bool} {s r : Nat} (O : OpOk K0 t r K') (ht : K0.A.tk s = true) (hd : ∀ x, K0.den s x = t x) (x : Nat) : K'.A.tk x = true ↔ K0.A.tk x = true := by
  refine ⟨fun hx => ?_, fun hx => O.ext.tk hx⟩
  cases h : K0.A.tk x with
  | true => rfl
  | false =>
    exfalso
    obtain ⟨l, a, hg⟩ := O.new x hx h
    obtain ⟨z, tz, hz⟩ := KV.sub_live h0 l a _ s (Nat.le_refl _) ht
    have : x = z := KV.canon h'.wf h'.ord u' _ _ _ hx (O.ext.tk tz) (Nat.le_refl _) fun y => by rw [hg, O.ext.den h0.wf y tz, hz, hd]
    subst this
    rw [h] at tz; cases tz
end Go.Proofs.Ytnenhecnkidnpaa
