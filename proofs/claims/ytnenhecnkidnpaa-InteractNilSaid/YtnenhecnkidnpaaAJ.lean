/- The recursion's contract. -/
import Derived.Test.YtnenhecnkidnpaaAI
namespace Go.Proofs.Ytnenhecnkidnpaa
open Go.RowKit Go.Maps Go.ChangeMaps Go.WideShapes

theorem KV.dep3_le {K : KV} (hk : K.Ok) {f g h : Nat} (hA : AskQ K f g h) : K.dep3 f g h ≤ K.vars := by
  have := hk.wf.dep_le hk.ord hA.t0
  simp only [KV.dep3]; omega

theorem orVar_of {K : KV} (hk : K.Ok) {f : Nat} {p : PlaceV} (a : K.A.list[f]? = some p ∧ p.taken = true) : K.orVar p.var := by
  by_cases h2 : 2 ≤ f
  · obtain ⟨p', v, hp', _, hv, hvl, _⟩ := hk.wf.node_at h2 (ArenaV.tk_iff.2 ⟨p, a.1, a.2⟩)
    rw [a.1] at hp'; cases hp'
    exact .inr ⟨v, hv, hvl⟩
  · left
    match f, h2, a.1 with
    | 0, _, hp => rw [hk.wf.ok.c0] at hp; cases hp; rfl
    | 1, _, hp => rw [hk.wf.ok.c1] at hp; cases hp; rfl
    | f + 2, h2, _ => omega

theorem dep_of_var {K : KV} (hk : K.Ok) {f n : Nat} {p : PlaceV} (a : K.A.list[f]? = some p ∧ p.taken = true) (hn : n < K.vars) (h : p.var = -1 ∨ ∃ k : Nat, p.var = (k : Int) ∧ K.lev n ≤ K.lev k) : K.lev n ≤ K.dep f := by
  have hln := (hk.ord.pm.lo n hn).1
  rcases h with h | ⟨k, h, hl⟩
  · have := all_const hk a h
    rw [hk.wf.dep_const this]; omega
  · simp [KV.dep, a.1, h]; exact hl

theorem go_step (K0 : KV) (t : (Nat → Bool) → Bool) (wb b ck cw cl cg mb fl : Nat) (caps : Array Value) (FL : List Nat) (L : Bool → Bool → Bool → Bool) (lvv : Value) (d : Nat) (hfl : Enters fl) (hen : Enters 56)
    (IH : GoHyp K0 t wb b ck cw cl cg mb fl caps FL L lvv (d + 1)) : GoHyp K0 t wb b ck cw cl cg mb fl caps FL L lvv d := by
  intro f g h K T q M mv D w hR hA hd hS hK hQ
  by_cases hlt : d + 1 ≤ K.dep3 f g h
  · exact IH f g h K T q M mv D w hR hA hlt hS hK hQ
  · have hdd : K.dep3 f g h = d := by omega
    have hok := hR.wk.ker.ok
    cases hh : Maps.has D (qk f g h) with
    | true => exact go_known K0 t wb b ck cw cl cg mb fl caps FL L lvv f g h K T q M mv D w hR hA hS hK hh
    | false =>
      obtain ⟨p0, a0, a0'⟩ := ArenaV.tk_iff.1 hA.t0
      obtain ⟨p1, a1, a1'⟩ := ArenaV.tk_iff.1 hA.t1
      obtain ⟨p2, a2, a2'⟩ := ArenaV.tk_iff.1 hA.t2
      have o0 := orVar_of hok ⟨a0, a0'⟩
      have o1 := orVar_of hok ⟨a1, a1'⟩
      have o2 := orVar_of hok ⟨a2, a2'⟩
      have ho : ∀ p, p ∈ [p0, p1, p2] → K.orVar p.var := fun p hp => by
        simp only [List.mem_cons, List.not_mem_nil, or_false] at hp
        rcases hp with rfl | rfl | rfl
        · exact o0
        · exact o1
        · exact o2
      rcases top_spec _ [p0, p1, p2] rfl ho with ⟨ht, hv⟩ | ⟨n, ht, hn, hp, hv⟩
      · exact go_leaf K0 t wb b ck cw cl cg mb fl caps FL L lvv f g h K T q M mv D w hR hA hS hK hh p0 p1 p2 ⟨a0, a0'⟩ ⟨a1, a1'⟩ ⟨a2, a2'⟩ ht hv hfl
      · have h1 := dep3_top (n := n) a0 a1 a2 hp
        have h2 : K.lev n ≤ K.dep3 f g h := by
          have e0 := dep_of_var hok ⟨a0, a0'⟩ hn (hv p0 (by simp))
          have e1 := dep_of_var hok ⟨a1, a1'⟩ hn (hv p1 (by simp))
          have e2 := dep_of_var hok ⟨a2, a2'⟩ hn (hv p2 (by simp))
          simp only [KV.dep3]; omega
        have hl0 : K0.lev n = d := by rw [← hS.ext.lev]; omega
        refine go_deep K0 t wb b ck cw cl cg mb fl caps FL L lvv n f g h K T q M mv D w hR hA hS hK hQ hh p0 p1 p2 ⟨a0, a0'⟩ ⟨a1, a1'⟩ ⟨a2, a2'⟩ ht hn (by omega) (fun p hp => ?_) (by rw [hl0]; exact IH) hen
        rcases ho p hp with h | ⟨k, h, hk⟩
        · exact .inl h
        · rcases hv p hp with h' | ⟨k', h', hk'⟩
          · exact .inl h'
          · have : k = k' := by omega
            subst this
            exact .inr ⟨k, h, hk, hk'⟩

theorem go_spec (K0 : KV) (t : (Nat → Bool) → Bool) (wb b ck cw cl cg mb fl : Nat) (caps : Array Value) (FL : List Nat) (L : Bool → Bool → Bool → Bool) (lvv : Value) (hfl : Enters fl) (hen : Enters 56) : ∀ (k d : Nat), K0.vars + 1 - d ≤ k → GoHyp K0 t wb b ck cw cl cg mb fl caps FL L lvv d
  | 0, d, hk => by
    intro f g h K T q M mv D w hR hA hd hS hK hQ
    have h1 := KV.dep3_le hR.wk.ker.ok hA
    have h2 := hS.ext.vr
    omega
  | k + 1, d, hk => by
    by_cases hd : K0.vars + 1 ≤ d
    · intro f g h K T q M mv D w hR hA hd' hS hK hQ
      have h1 := KV.dep3_le hR.wk.ker.ok hA
      have h2 := hS.ext.vr
      omega
    · exact go_step K0 t wb b ck cw cl cg mb fl caps FL L lvv d hfl hen (go_spec K0 t wb b ck cw cl cg mb fl caps FL L lvv hfl hen k (d + 1) (by omega))
end Go.Proofs.Ytnenhecnkidnpaa
