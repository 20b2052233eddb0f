/- The heap: the contracts of ahead, up and down. -/
import Derived.Test.YtjgmbgdbhpfciaaHp
import Derived.Deep.LoopGhost
import Derived.Deep.DeepCutAuto
namespace Go.Proofs.Ytjgmbgdbhpfciaa
open Go.RowKit Go.Maps Go.WideShapes

set_option maxHeartbeats 800000 in
theorem ahead_spec (a b : It) (w : World) :
    Calls Try.prog 22 #[.agg #[.int .i64 a.x, .int .i64 a.k], .agg #[.int .i64 b.x, .int .i64 b.k]] w fun e w' => e = .returned (.bool (ahead a b)) ∧ Upd [] w w' := by
  obtain ⟨ax, ak⟩ := a
  obtain ⟨bx, bk⟩ := b
  by_cases h1 : ak < bk
  · have e : ahead ⟨ax, ak⟩ ⟨bx, bk⟩ = true := by simp [ahead, h1]
    rw [e]
    clear e
    go_enter Try.func22, Try.ntmps22
    go_wp2_with fail
    go_ret
    exact ⟨rfl, ((Upd.refl _ _).alloc _).alloc _⟩
  · have d1 : decide (ak < bk) = false := by simpa using h1
    by_cases h2 : ak = bk
    · subst h2
      by_cases h3 : ax < bx
      · have e : ahead ⟨ax, ak⟩ ⟨bx, ak⟩ = true := by simp [ahead, h3]
        rw [e]
        clear e
        go_enter Try.func22, Try.ntmps22
        go_wp2_with fail
        go_ret
        exact ⟨rfl, ((Upd.refl _ _).alloc _).alloc _⟩
      · have d3 : decide (ax < bx) = false := by simpa using h3
        have e : ahead ⟨ax, ak⟩ ⟨bx, ak⟩ = false := by simp [ahead, h3]
        rw [e]
        clear e
        go_enter Try.func22, Try.ntmps22
        go_wp2_with fail
        go_ret
        exact ⟨rfl, ((Upd.refl _ _).alloc _).alloc _⟩
    · have d2 : (ak == bk) = false := by simpa using h2
      have e : ahead ⟨ax, ak⟩ ⟨bx, bk⟩ = false := by simp [ahead, h1, h2]
      rw [e]
      clear e
      go_enter Try.func22, Try.ntmps22
      go_wp2_with fail
      go_ret
      exact ⟨rfl, ((Upd.refl _ _).alloc _).alloc _⟩

/-- The map D tells the place of each thing of K but the one at i; it knows no other thing. -/
structure MapBut (D : DM) (K : List It) (i : Nat) : Prop where
  dom : ∀ k, Maps.has D k = true → ∃ a, a ∈ K ∧ k = .int .i64 a.x
  at_ : ∀ (j : Nat) a, K[j]? = some a → j ≠ i → Maps.has D (.int .i64 a.x) = true ∧ ∀ z, D.atKey (.int .i64 a.x) z = .lit (.int .i64 j)

structure MapIs (D : DM) (K : List It) : Prop where
  dom : ∀ k, Maps.has D k = true → ∃ a, a ∈ K ∧ k = .int .i64 a.x
  at_ : ∀ (j : Nat) a, K[j]? = some a → Maps.has D (.int .i64 a.x) = true ∧ ∀ z, D.atKey (.int .i64 a.x) z = .lit (.int .i64 j)

theorem MapIs.but {D : DM} {K : List It} (h : MapIs D K) (i : Nat) : MapBut D K i := ⟨h.dom, fun j a hj _ => h.at_ j a hj⟩

/-- No thing is there twice; the keys of the map can be read. -/
structure KOk (K : List It) : Prop where
  nd : (K.map It.x).Nodup
  wf : ∀ a, a ∈ K → (Lit.int .i64 a.x).wf = true

theorem KOk.inj {K : List It} (h : KOk K) {i j : Nat} {a b : It} (hi : K[i]? = some a) (hj : K[j]? = some b) (e : a.x = b.x) : i = j := by
  have h1 : (K.map It.x)[i]? = some a.x := by simp [hi]
  have h2 : (K.map It.x)[j]? = some b.x := by simp [hj]
  exact (List.getElem?_inj (List.getElem?_eq_some_iff.1 h1).1 h.nd).1 (by rw [h1, h2, e])

theorem KOk.perm {K K' : List It} (h : KOk K) (p : K'.Perm K) : KOk K' :=
  ⟨(p.map It.x).symm.nodup h.nd, fun a ha => h.wf a (p.subset ha)⟩

theorem MapBut.size {D : DM} {K : List It} {i : Nat} (h : MapBut D K i) (hc : Maps.Canon D) (ht : Tidy D) (hb : K.length ≤ 2147483647) : Maps.size D < maxLen := by
  have := size_le_keys hc (ks := K.map fun a => Lit.int .i64 a.x) (fun k hk => by obtain ⟨a, ha, rfl⟩ := h.dom k hk; exact List.mem_map.2 ⟨a, ha, rfl⟩) ht
  simp at this
  unfold maxLen; omega

/-- the thing at i is written down: then the map is whole -/
theorem MapBut.put {D : DM} {K : List It} {i : Nat} {a : It} (h : MapBut D K i) (hD : IsMap D) (hk : KOk K) (hi : K[i]? = some a) : MapIs (D.put (.int .i64 a.x) (.lit (.int .i64 i))) K := by
  have hl : WideAt.IsKeyLit (.int .i64 a.x) := trivial
  refine ⟨fun k hk' => ?_, fun j b hj => ?_⟩
  · by_cases e : k = .int .i64 a.x
    · exact ⟨a, List.mem_of_getElem? hi, e⟩
    · rw [has_put_other e] at hk'; exact h.dom k hk'
  · by_cases e : j = i
    · subst e; rw [hi] at hj; cases hj
      exact ⟨has_put_same hD hl _, fun z => atKey_put_same hD hl _ _⟩
    · have hne : Lit.int .i64 b.x ≠ Lit.int .i64 a.x := by
        intro h'; simp at h'; exact e (hk.inj hj hi h')
      rw [has_put_other hne]
      obtain ⟨g1, g2⟩ := h.at_ j b hj e
      exact ⟨g1, fun z => by rw [atKey_put_other hne]; exact g2 z⟩

/-- the thing at p is moved to i: the hole is at p then -/
theorem MapBut.move {D : DM} {K : List It} {i p : Nat} {a b : It} (h : MapBut D K i) (hD : IsMap D) (hk : KOk K) (hi : K[i]? = some a) (hp : K[p]? = some b) (hne : p ≠ i) :
    MapBut (D.put (.int .i64 b.x) (.lit (.int .i64 i))) (swp K i p a b) p := by
  have hl : WideAt.IsKeyLit (.int .i64 b.x) := trivial
  have g := swp_get hp hi hne
  have hmem : ∀ c, c ∈ K → c ∈ swp K i p a b := fun c hc => (swp_perm hp hi hne).symm.subset hc
  refine ⟨fun k hk' => ?_, fun j c hj hjp => ?_⟩
  · by_cases e : k = .int .i64 b.x
    · exact ⟨b, hmem b (List.mem_of_getElem? hp), e⟩
    · rw [has_put_other e] at hk'
      obtain ⟨c, hc, hx⟩ := h.dom k hk'
      exact ⟨c, hmem c hc, hx⟩
  · rw [g, if_neg hjp] at hj
    by_cases e : j = i
    · subst e; rw [if_pos rfl] at hj; cases hj
      exact ⟨has_put_same hD hl _, fun z => atKey_put_same hD hl _ _⟩
    · rw [if_neg e] at hj
      have hne' : Lit.int .i64 c.x ≠ Lit.int .i64 b.x := by
        intro h'; simp at h'; exact hjp (hk.inj hj hp h')
      rw [has_put_other hne']
      obtain ⟨g1, g2⟩ := h.at_ j c hj e
      exact ⟨g1, fun z => by rw [atKey_put_other hne']; exact g2 z⟩
end Go.Proofs.Ytjgmbgdbhpfciaa
