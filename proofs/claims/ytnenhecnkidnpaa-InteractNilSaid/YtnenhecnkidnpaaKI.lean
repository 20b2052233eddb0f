/- What the table of nodes says of the arena; and how it turns. -/
import Derived.Test.YtnenhecnkidnpaaKM
namespace Go.Proofs.Ytnenhecnkidnpaa
open Go.RowKit Go.Maps Go.ChangeMaps Go.WideShapes

def nkp (p : PlaceV) : Lit := nk p.var p.lo p.hi

/-- The table finds each node but those of X, and nothing else. -/
structure TInv (T : List DM) (K : KV) (X : List Nat) : Prop where
  len : T.length = K.vars
  dom : ∀ (v : Nat) (D : DM) (k : Lit), T[v]? = some D → Maps.has D k = true → ∃ (r : Nat) (p : PlaceV), 2 ≤ r ∧ K.A.list[r]? = some p ∧ p.taken = true ∧ p.var = (v : Int) ∧ k = nkp p ∧ r ∉ X
  at_ : ∀ (r : Nat) (p : PlaceV) (D : DM), 2 ≤ r → K.A.list[r]? = some p → p.taken = true → r ∉ X → T[p.var.toNat]? = some D → Maps.has D (nkp p) = true ∧ ∀ z, D.atKey (nkp p) z = .lit (.int .u32 r)
  im : ∀ (D : DM), D ∈ T → IsMap D

theorem nkp_inj {K : KV} {P : List Nat} (h : K.Wf P) {r s : Nat} {p c : PlaceV} (hr : 2 ≤ r) (hs : 2 ≤ s) (hp : K.A.list[r]? = some p) (hc : K.A.list[s]? = some c) (hpt : p.taken = true) (hct : c.taken = true) (e : nkp p = nkp c) :
    p.var = c.var ∧ p.lo = c.lo ∧ p.hi = c.hi := by
  have h1 := h.vr r p hr hp hpt
  have h2 := h.vr s c hs hc hct
  have h3 := h.vs
  have h4 := h.ok.u32 p (List.mem_of_getElem? hp)
  have h5 := h.ok.u32 c (List.mem_of_getElem? hc)
  exact nk_inj (wfI (by omega) (by omega)) (wfR h4.1) (wfR h4.2.1) (wfI (by omega) (by omega)) (wfR h5.1) (wfR h5.2.1) e

/-- one node, one place -/
theorem TInv.uniq {T : List DM} {K : KV} {X P : List Nat} (h : TInv T K X) (hw : K.Wf P) {r s : Nat} {p c : PlaceV} (hr : 2 ≤ r) (hs : 2 ≤ s) (hp : K.A.list[r]? = some p) (hc : K.A.list[s]? = some c) (hpt : p.taken = true) (hct : c.taken = true)
    (hrx : r ∉ X) (hsx : s ∉ X) (e : nkp p = nkp c) : r = s := by
  have hv := h.len
  have h1 := hw.vr r p hr hp hpt
  obtain ⟨e1, _, _⟩ := nkp_inj hw hr hs hp hc hpt hct e
  have hl : p.var.toNat < T.length := by omega
  have hD : T[p.var.toNat]? = some T[p.var.toNat] := List.getElem?_eq_getElem hl
  have g1 := (h.at_ r p _ hr hp hpt hrx hD).2 .nil
  have g2 := (h.at_ s c _ hs hc hct hsx (by rw [← e1]; exact hD)).2 .nil
  rw [e, g2] at g1
  simp at g1
  omega

theorem TInv.size {T : List DM} {K : KV} {X P : List Nat} (h : TInv T K X) (hw : K.Wf P) {v : Nat} {D : DM} (hv : T[v]? = some D) (hc : Maps.Canon D) (ht : Tidy D) : Maps.size D ≤ 1048576 := by
  have := size_le_keys hc (ks := K.A.list.map nkp) (fun k hk => by
    obtain ⟨r, p, _, hp, _, _, rfl, _⟩ := h.dom v D k hv hk
    exact List.mem_map.2 ⟨p, List.mem_of_getElem? hp, rfl⟩) ht
  have h2 := hw.ok.lp
  have h3 := hw.ok.pm
  simp at this
  omega

/-- Only uses, holds and the trail have turned. -/
theorem TInv.same {T : List DM} {K K' : KV} {X : List Nat} (h : TInv T K X) (hA : K'.A = K.A) (hv : K'.vars = K.vars) : TInv T K' X :=
  ⟨by rw [hv]; exact h.len, by rw [hA]; exact h.dom, by rw [hA]; exact h.at_, h.im⟩

theorem TInv.gone {T : List DM} {K : KV} {P : List Nat} (h : TInv T K []) (hw : K.Wf P) {r v : Nat} {p : PlaceV} {D : DM} (hr : 2 ≤ r) (hp : K.A.list[r]? = some p) (hpt : p.taken = true) (hv : p.var = (v : Int)) (hD : T[v]? = some D) :
    TInv (T.set v (D.del (nkp p))) (K.gone r) [] := by
  have hvl := (List.getElem?_eq_some_iff.1 hD).1
  have hlt := (List.getElem?_eq_some_iff.1 hp).1
  refine ⟨by simpa [KV.gone] using h.len, ?_, ?_, ?_⟩
  · intro u D2 k hu hk
    have key : ∀ (s : Nat) (c : PlaceV), 2 ≤ s → K.A.list[s]? = some c → c.taken = true → s ≠ r → (K.gone r).A.list[s]? = some c := by
      intro s c _ hc _ hne
      simp only [KV.gone, ArenaV.drop]
      rw [List.getElem?_set_ne (Ne.symm hne)]; exact hc
    by_cases e : u = v
    · subst e
      rw [List.getElem?_set_self hvl] at hu; cases hu
      by_cases e2 : k = nkp p
      · subst e2; rw [has_del_same] at hk; cases hk
      · rw [has_del_other e2] at hk
        obtain ⟨s, c, h1, h2, h3, h4, h5, h6⟩ := h.dom u D k hD hk
        refine ⟨s, c, h1, key s c h1 h2 h3 ?_, h3, h4, h5, by simp⟩
        rintro rfl
        rw [hp] at h2; cases h2; exact e2 h5
    · rw [List.getElem?_set_ne (Ne.symm e)] at hu
      obtain ⟨s, c, h1, h2, h3, h4, h5, h6⟩ := h.dom u D2 k hu hk
      refine ⟨s, c, h1, key s c h1 h2 h3 ?_, h3, h4, h5, by simp⟩
      rintro rfl
      rw [hp] at h2; cases h2
      rw [hv] at h4; omega
  · intro s c D2 hs hc hct _ hD2
    have hne : s ≠ r := by
      rintro rfl
      simp only [KV.gone, ArenaV.drop] at hc
      rw [List.getElem?_set_self hlt] at hc; cases hc; simp [PlaceV.zero] at hct
    simp only [KV.gone, ArenaV.drop] at hc
    rw [List.getElem?_set_ne (Ne.symm hne)] at hc
    by_cases e : c.var.toNat = v
    · rw [e, List.getElem?_set_self hvl] at hD2; cases hD2
      have hk : nkp c ≠ nkp p := fun e2 => hne (h.uniq hw hs hr hc hp hct hpt (by simp) (by simp) e2)
      obtain ⟨g1, g2⟩ := h.at_ s c D hs hc hct (by simp) (by rw [e]; exact hD)
      rw [has_del_other hk]
      exact ⟨g1, fun z => by rw [atKey_del_other hk]; exact g2 z⟩
    · rw [List.getElem?_set_ne (Ne.symm e)] at hD2
      exact h.at_ s c D2 hs hc hct (by simp) hD2
  · intro D2 hD2
    rcases List.mem_or_eq_of_mem_set hD2 with h1 | rfl
    · exact h.im D2 h1
    · exact (h.im D (List.mem_of_getElem? hD)).del _

/-- K' is K, but that some nodes are gone (and their uses counted anew). -/
structure KV.Le (K' K : KV) : Prop where
  nd : ∀ (r : Nat) (p : PlaceV), K'.A.list[r]? = some p → p.taken = true → K.A.list[r]? = some p
  pl : K'.A.places = K.A.places
  us : K'.A.used ≤ K.A.used
  hd : K'.holds = K.holds
  vr : K'.vars = K.vars
  od : K'.order = K.order
  lv : K'.level = K.level
  tr : K'.trail = K.trail

theorem KV.Le.refl (K : KV) : K.Le K := ⟨fun _ _ h _ => h, rfl, Nat.le_refl _, rfl, rfl, rfl, rfl, rfl⟩
theorem KV.Le.trans {A B C : KV} (h : A.Le B) (k : B.Le C) : A.Le C :=
  ⟨fun r p h1 h2 => k.nd r p (h.nd r p h1 h2) h2, h.pl.trans k.pl, Nat.le_trans h.us k.us, h.hd.trans k.hd, h.vr.trans k.vr, h.od.trans k.od, h.lv.trans k.lv, h.tr.trans k.tr⟩
theorem KV.less_le (K : KV) (r : Nat) : (K.less r).Le K := ⟨fun _ _ h _ => h, rfl, Nat.le_refl _, rfl, rfl, rfl, rfl, rfl⟩
theorem KV.gone_le (K : KV) (r : Nat) : (K.gone r).Le K := by
  refine ⟨fun s p h ht => ?_, rfl, by simp [KV.gone, ArenaV.drop], rfl, rfl, rfl, rfl, rfl⟩
  simp only [KV.gone, ArenaV.drop] at h
  by_cases e : s = r
  · subst e
    by_cases hl : s < K.A.list.length
    · rw [List.getElem?_set_self hl] at h; cases h; simp [PlaceV.zero] at ht
    · rw [List.getElem?_eq_none (by simpa using hl)] at h; cases h
  · rw [List.getElem?_set_ne (Ne.symm e)] at h; exact h

theorem KV.Pos.less {K : KV} {P : List Nat} {r : Nat} (h : K.Pos) (hw : K.Wf (r :: P)) (hr : 2 ≤ r) (hu : 1 < K.use r) : (K.less r).Pos := by
  intro s hs ht
  show 0 < (K.uses.set r (K.use r - 1)).getD s 0
  rw [getD_set (hw.tu r hr (hw.pt r (by simp)))]
  split
  · omega
  · exact h s hs ht
theorem KV.Pos.gone {K : KV} {P : List Nat} {r : Nat} (h : K.Pos) (hw : K.Wf (r :: P)) (hr : 2 ≤ r) : (K.gone r).Pos := by
  intro s hs ht
  have hl := hw.tu r hr (hw.pt r (by simp))
  have hlt := ArenaV.tk_lt (hw.pt r (by simp))
  show 0 < (K.uses.set r 0).getD s 0
  rw [getD_set hl]
  have : (K.gone r).A.tk s = if s = r then false else K.A.tk s := tk_drop hlt
  rw [this] at ht
  split at ht
  · cases ht
  · rename_i e
    rw [if_neg e]; exact h s hs ht
end Go.Proofs.Ytnenhecnkidnpaa
