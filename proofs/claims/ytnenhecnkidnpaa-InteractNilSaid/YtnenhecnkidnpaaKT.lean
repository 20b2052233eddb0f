/- A new place of the arena, whichever way it comes. -/
import Derived.Test.YtnenhecnkidnpaaKR
namespace Go.Proofs.Ytnenhecnkidnpaa
open Go.RowKit Go.Maps Go.ChangeMaps Go.WideShapes

structure Fresh (A : ArenaV) (v : Int) (lo hi r : Nat) (A' : ArenaV) : Prop where
  ok : A'.Ok
  two : 2 ≤ r
  no : A.tk r = false
  at_ : A'.list[r]? = some ⟨v, lo, hi, true, 0⟩
  ot : ∀ s, s ≠ r → A'.list[s]? = A.list[s]?
  us : A'.used = A.used + 1
  pl : A'.places = A.places
  ll : r < A'.list.length ∧ A.list.length ≤ A'.list.length
  pr : ∀ x, par A'.list x = par A.list x + (if lo = x then 1 else 0) + (if hi = x then 1 else 0)

theorem Fresh.put {A : ArenaV} (h : A.Ok) {F : List Nat} {r : Nat} (hf : A.free = F ++ [r]) {v : Int} {lo hi : Nat} (h1 : lo ≤ 4294967295) (h2 : hi ≤ 4294967295) : Fresh A v lo hi r (A.put F r v lo hi) := by
  obtain ⟨p, hp, hpt⟩ := (h.fr r).1 (by rw [hf]; simp)
  have hlt := (List.getElem?_eq_some_iff.1 hp).1
  refine ⟨h.put hf h1 h2, ?_, ?_, ?_, ?_, rfl, rfl, ?_, ?_⟩
  · match r, hp with
    | 0, hp => rw [h.c0] at hp; cases hp; simp at hpt
    | 1, hp => rw [h.c1] at hp; cases hp; simp at hpt
    | r + 2, _ => omega
  · simp [ArenaV.tk, hp, hpt]
  · simp only [ArenaV.put]
    rw [List.getElem?_set_self hlt]
  · intro s hs
    simp only [ArenaV.put]
    rw [List.getElem?_set_ne (Ne.symm hs)]
  · simp [ArenaV.put]; exact hlt
  · intro x
    simp only [ArenaV.put]
    have e := par_set (q := ⟨v, lo, hi, true, 0⟩) hp x
    have e1 : cnt p x = 0 := by simp [cnt, hpt]
    have e2 : cnt ⟨v, lo, hi, true, 0⟩ x = (if lo = x then 1 else 0) + (if hi = x then 1 else 0) := by simp [cnt]
    omega

theorem Fresh.push {A : ArenaV} (h : A.Ok) (hl : A.list.length < A.places) {v : Int} {lo hi : Nat} (h1 : lo ≤ 4294967295) (h2 : hi ≤ 4294967295) : Fresh A v lo hi A.list.length (A.push v lo hi) := by
  refine ⟨h.push hl h1 h2, ?_, ?_, ?_, ?_, rfl, rfl, ?_, ?_⟩
  · exact h.l2
  · simp [ArenaV.tk]
  · simp [ArenaV.push]
  · intro s hs
    simp only [ArenaV.push]
    rw [List.getElem?_append]
    split
    · rfl
    · rw [List.getElem?_eq_none (by simp; omega), List.getElem?_eq_none (by omega)]
  · simp [ArenaV.push]
  · intro x
    simp only [ArenaV.push]
    rw [par_append]
    simp [par, cnt]; omega

/-- Alloc, where there is room and the node is sound. -/
theorem alloc_any (b : Nat) (F : List Nat) (v : Int) (lo hi : Nat) (A : ArenaV) (w : World) (h : ArenaAt w b A F) (h1 : lo ≤ 4294967295) (h2 : hi ≤ 4294967295)
    (hroom : A.used < A.places) (hc : A.checkE v lo hi = 0) :
    Calls Try.prog 69 #[.pointer (some ⟨b, 0, none⟩), .agg #[.int .i64 v, .int .u32 lo, .int .u32 hi]] w fun e w' =>
      ∃ (r : Nat) (A' : ArenaV) (F' : List Nat), e = .returned (.tuple #[.int .u32 r, .int .i64 0]) ∧ Fresh A v lo hi r A' ∧ ArenaAt w' b A' F' ∧ Upd F w w' ∧ Sub F w F' := by
  rcases List.eq_nil_or_concat A.free with hf | ⟨fr, r, hf⟩
  · have hl : A.list.length < A.places := by have := h.ok.us; rw [hf] at this; simp at this; omega
    refine (alloc_push b F v lo hi A w h h1 h2 hf hl hc).mono ?_
    rintro e w' ⟨rfl, F', a1, a2, a3⟩
    exact ⟨_, _, F', rfl, Fresh.push h.ok hl h1 h2, a1, a2, a3⟩
  · rw [List.concat_eq_append] at hf
    refine (alloc_free b F v lo hi r fr A w h h1 h2 hf hc).mono ?_
    rintro e w' ⟨rfl, a1, a2⟩
    exact ⟨_, _, F, rfl, Fresh.put h.ok hf h1 h2, a1, a2, Sub.refl _ _⟩

theorem Fresh.tk {A A' : ArenaV} {v : Int} {lo hi r : Nat} (h : Fresh A v lo hi r A') (x : Nat) : A'.tk x = (decide (x = r) || A.tk x) := by
  by_cases e : x = r
  · subst e; simp [ArenaV.tk, h.at_]
  · unfold ArenaV.tk; rw [h.ot x e]; simp [e]

theorem Fresh.room {A A' : ArenaV} {v : Int} {lo hi r : Nat} (h : Fresh A v lo hi r A') : r ≤ 1048575 := by
  have h1 := h.ll.1
  have h2 := h.ok.lp
  have h3 := h.ok.pm
  omega

/-- K' is K with a new node at r. -/
structure KV.Took (K : KV) (v : Int) (lo hi r : Nat) (K' : KV) : Prop where
  fr : Fresh K.A v lo hi r K'.A
  ul : K.uses.length ≤ K'.uses.length ∧ r < K'.uses.length ∧ K'.uses.length ≤ K'.A.list.length
  hl : K'.holds.length = K'.uses.length
  us : ∀ x, K'.use x = (if x = r then 0 else K.use x) + (if lo = x ∧ 2 ≤ x then 1 else 0) + (if hi = x ∧ 2 ≤ x then 1 else 0)
  hd : ∀ x, K'.hold x = if x = r then 0 else K.hold x
  vr : K'.vars = K.vars
  od : K'.order = K.order
  lv : K'.level = K.level
  tr : K'.trail = K.trail

theorem KV.Took.wf {K K' : KV} {P : List Nat} {v : Int} {lo hi r : Nat} (t : K.Took v lo hi r K') (h : K.Wf P) (h1 : K.A.tk lo = true) (h2 : K.A.tk hi = true) (hv : 0 ≤ v ∧ v < K.vars) : K'.Wf P := by
  have hno := t.fr.no
  have hlo : lo ≠ r := by rintro rfl; rw [hno] at h1; cases h1
  have hhi : hi ≠ r := by rintro rfl; rw [hno] at h2; cases h2
  have hr2 := t.fr.two
  have hpar : par K.A.list r = 0 := par_zero fun q p hp hpt => by
    by_cases hq : 2 ≤ q
    · have := h.cl q p hq hp hpt
      constructor
      · rintro rfl; rw [hno] at this; simp at this
      · rintro rfl; rw [hno] at this; simp at this
    · match q, hp with
      | 0, hp => rw [h.ok.c0] at hp; cases hp; simp; omega
      | 1, hp => rw [h.ok.c1] at hp; cases hp; simp; omega
      | q + 2, _ => omega
  have hnp : r ∉ P := fun hm => by have := h.pt r hm; rw [hno] at this; cases this
  refine ⟨t.fr.ok, t.hl, t.ul.2.2, ?_, ?_, ?_, ?_, ?_, ?_, ?_, by rw [t.vr]; exact h.vs⟩
  · intro x hx htx
    rw [t.fr.tk] at htx
    by_cases e : x = r
    · rw [e]; exact t.ul.2.1
    · simp [e] at htx
      have := h.tu x hx htx
      have := t.ul.1
      omega
  · intro x hx
    rw [t.hd] at hx
    split at hx
    · omega
    · rename_i e
      have := h.ht x hx
      exact ⟨this.1, by rw [t.fr.tk]; simp [this.2]⟩
  · intro x
    rw [t.hd]
    split
    · omega
    · exact h.hm x
  · intro x hx htx
    rw [t.us, t.hd, t.fr.pr]
    by_cases e : x = r
    · subst e
      have hc : P.count x = 0 := List.count_eq_zero.2 hnp
      simp [hlo, hhi, hpar, hc, one]
    · rw [t.fr.tk] at htx
      simp [e] at htx
      have := h.eq x hx htx
      simp only [e, if_false, hx, and_true]
      omega
  · intro x hx
    rw [t.fr.tk, h.pt x hx]; simp
  · intro q p hq hp hpt
    by_cases e : q = r
    · subst e
      rw [t.fr.at_] at hp; cases hp
      rw [t.fr.tk, t.fr.tk, h1, h2]; simp
    · rw [t.fr.ot q e] at hp
      have := h.cl q p hq hp hpt
      rw [t.fr.tk, t.fr.tk, this.1, this.2]; simp
  · intro q p hq hp hpt
    rw [t.vr]
    by_cases e : q = r
    · subst e
      rw [t.fr.at_] at hp; cases hp
      exact hv
    · rw [t.fr.ot q e] at hp
      exact h.vr q p hq hp hpt

theorem TInv.took {T : List DM} {K K' : KV} {lo hi r v : Nat} {D : DM} (h : TInv T K []) (t : K.Took (v : Int) lo hi r K') (hD : T[v]? = some D) (hno : Maps.has D (nk v lo hi) = false) :
    TInv (T.set v (D.put (nk v lo hi) (.lit (.int .u32 r)))) K' [] := by
  have hvl := (List.getElem?_eq_some_iff.1 hD).1
  have hIM := h.im D (List.mem_of_getElem? hD)
  have hr2 := t.fr.two
  have hold : ∀ (s : Nat) (c : PlaceV), K.A.list[s]? = some c → c.taken = true → s ≠ r := by
    rintro s c hs hct rfl
    have := t.fr.no
    simp [ArenaV.tk, hs, hct] at this
  refine ⟨by rw [t.vr]; simpa using h.len, ?_, ?_, ?_⟩
  · intro u D2 k hu hk
    have key : ∀ (u : Nat) (D2 : DM), T[u]? = some D2 → Maps.has D2 k = true → ∃ (r : Nat) (p : PlaceV), 2 ≤ r ∧ K'.A.list[r]? = some p ∧ p.taken = true ∧ p.var = (u : Int) ∧ k = nkp p ∧ r ∉ ([] : List Nat) := by
      intro u D2 hu hk
      obtain ⟨s, c, h1, h2, h3, h4, h5, h6⟩ := h.dom u D2 k hu hk
      exact ⟨s, c, h1, by rw [t.fr.ot s (hold s c h2 h3)]; exact h2, h3, h4, h5, h6⟩
    by_cases e : u = v
    · subst e
      rw [List.getElem?_set_self hvl] at hu; cases hu
      by_cases e2 : k = nk u lo hi
      · subst e2
        exact ⟨r, _, hr2, t.fr.at_, rfl, rfl, rfl, by simp⟩
      · rw [has_put_other e2] at hk
        exact key u D hD hk
    · rw [List.getElem?_set_ne (Ne.symm e)] at hu
      exact key u D2 hu hk
  · intro s c D2 hs hc hct _ hD2
    by_cases e0 : s = r
    · subst e0
      rw [t.fr.at_] at hc; cases hc
      rw [show ((v : Int)).toNat = v by omega, List.getElem?_set_self hvl] at hD2; cases hD2
      exact ⟨has_put_same hIM (nk_isKey _ _ _) _, fun z => atKey_put_same hIM (nk_isKey _ _ _) _ _⟩
    · have hc0 := hc
      rw [t.fr.ot s e0] at hc
      by_cases e : c.var.toNat = v
      · rw [e, List.getElem?_set_self hvl] at hD2; cases hD2
        obtain ⟨g1, g2⟩ := h.at_ s c D hs hc hct (by simp) (by rw [e]; exact hD)
        have hk : nkp c ≠ nk v lo hi := by
          intro e2
          rw [e2, hno] at g1; cases g1
        rw [has_put_other hk]
        exact ⟨g1, fun z => by rw [atKey_put_other hk]; exact g2 z⟩
      · rw [List.getElem?_set_ne (Ne.symm e)] at hD2
        exact h.at_ s c D2 hs hc hct (by simp) hD2
  · intro D2 hD2
    rcases List.mem_or_eq_of_mem_set hD2 with h1 | rfl
    · exact h.im D2 h1
    · exact hIM.put _ _

/-- A slice of the store has grown by a zero. -/
theorem KerMem.growUse {w w5 : World} {b g5 cap : Nat} {X : Obj} {K : KV} {T : List DM} {q : KPtr} (h : KerMem w b K T q) (hg : (w.alloc X).grownBy w5 q.uv.ownBlock) (hat : q.uv.ownBlock = some g5 ∨ g5 = w.heap.size + 1)
    (hown : w5.ownsRow 0 21 1 (.slice (some ⟨g5, 0, none⟩) (K.uses.length + 1) cap) (K.uses.length + 1) (flat32 K.uses ++ [.int .i32 0])) :
    KerMem (w5.setCell ⟨b, 2, none⟩ (.slice (some ⟨g5, 0, none⟩) (K.uses.length + 1) cap)) b { K with uses := K.uses ++ [0] } T { q with uv := .slice (some ⟨g5, 0, none⟩) (K.uses.length + 1) cap, o := retag q w.heap.size 3 } := by
  have hb := heap_lt h.blk
  have hbg : b ≠ g5 := by
    rcases hat with e | e
    · rintro rfl; have e1 := h.ob; have e2 := h.ou b e; omega
    · omega
  have keep : ∀ {k c : Nat}, q.o k = c → c ≠ 3 → c ≠ 0 → k < w.heap.size → (w5.setCell ⟨b, 2, none⟩ (.slice (some ⟨g5, 0, none⟩) (K.uses.length + 1) cap)).heap[k]? = w.heap[k]? := by
    intro k c hk hc h0 hl
    rw [heap_set_ne (by rintro rfl; exact h0 (hk ▸ h.ob)), hg.block k (by rw [World.size_alloc]; omega) (fun e => hc (hk ▸ h.ou k e.symm)), heap_alloc_old _ _ hl]
  have hbk : w5.heap[b]? = w.heap[b]? := by
    rw [hg.block b (by rw [World.size_alloc]; omega) (fun e => by have e1 := h.ob; have e2 := h.ou b e.symm; omega), heap_alloc_old _ _ hb]
  rw [h.blk] at hbk
  refine ⟨by rw [heap_set_eq hbk]; simp, h.ar.keep fun k hm => keep (h.oa k hm) (by omega) (by omega) (h.ar.lt k hm), h.tab.keep fun k hm => keep (h.ot k hm) (by omega) (by omega) (h.tab.lt k hm), ?_, ?_,
    row_keep h.os fun k hm => keep (h.oo k hm) (by omega) (by omega) (h.os.lt k hm).2, row_keep h.ls fun k hm => keep (h.ol k hm) (by omega) (by omega) (h.ls.lt k hm).2, row_keep h.ts fun k hm => keep (h.ox k hm) (by omega) (by omega) (h.ts.lt k hm).2, ?_, ?_, ?_, ?_, ?_, ?_, ?_, ?_⟩
  · show World.ownsRow _ 0 _ 1 _ (K.uses ++ [0]).length (flat32 (K.uses ++ [0]))
    have e := row_ne hown (a := ⟨b, 2, none⟩) (by simpa [Value.ownBlock] using hbg) (.slice (some ⟨g5, 0, none⟩) (K.uses.length + 1) cap)
    simpa [flat32] using e
  · exact row_keep h.hs fun k hm => keep (h.oh k hm) (by omega) (by omega) (h.hs.lt k hm).2
  · show retag q _ _ b = 0
    rw [retag_old hb]; exact h.ob
  · intro k hk; show retag q _ _ k = 1; rw [retag_old (h.ar.lt k hk)]; exact h.oa k hk
  · intro k hk; show retag q _ _ k = 2; rw [retag_old (h.tab.lt k hk)]; exact h.ot k hk
  · intro k hk
    simp [Value.ownBlock] at hk; subst hk
    show retag q _ _ g5 = 3
    rcases hat with e | e
    · rw [retag_old (h.us.lt g5 e).2]; exact h.ou g5 e
    · unfold retag; rw [if_pos (by omega)]
  · intro k hk; show retag q _ _ k = 4; rw [retag_old (h.hs.lt k hk).2]; exact h.oh k hk
  · intro k hk; show retag q _ _ k = 5; rw [retag_old (h.os.lt k hk).2]; exact h.oo k hk
  · intro k hk; show retag q _ _ k = 6; rw [retag_old (h.ls.lt k hk).2]; exact h.ol k hk
  · intro k hk; show retag q _ _ k = 7; rw [retag_old (h.ts.lt k hk).2]; exact h.ox k hk


/-- A slice of the store has grown by a zero. -/
theorem KerMem.growHold {w w5 : World} {b g5 cap : Nat} {X : Obj} {K : KV} {T : List DM} {q : KPtr} (h : KerMem w b K T q) (hg : (w.alloc X).grownBy w5 q.hv.ownBlock) (hat : q.hv.ownBlock = some g5 ∨ g5 = w.heap.size + 1)
    (hown : w5.ownsRow 0 21 1 (.slice (some ⟨g5, 0, none⟩) (K.holds.length + 1) cap) (K.holds.length + 1) (flat32 K.holds ++ [.int .i32 0])) :
    KerMem (w5.setCell ⟨b, 3, none⟩ (.slice (some ⟨g5, 0, none⟩) (K.holds.length + 1) cap)) b { K with holds := K.holds ++ [0] } T { q with hv := .slice (some ⟨g5, 0, none⟩) (K.holds.length + 1) cap, o := retag q w.heap.size 4 } := by
  have hb := heap_lt h.blk
  have hbg : b ≠ g5 := by
    rcases hat with e | e
    · rintro rfl; have e1 := h.ob; have e2 := h.oh b e; omega
    · omega
  have keep : ∀ {k c : Nat}, q.o k = c → c ≠ 4 → c ≠ 0 → k < w.heap.size → (w5.setCell ⟨b, 3, none⟩ (.slice (some ⟨g5, 0, none⟩) (K.holds.length + 1) cap)).heap[k]? = w.heap[k]? := by
    intro k c hk hc h0 hl
    rw [heap_set_ne (by rintro rfl; exact h0 (hk ▸ h.ob)), hg.block k (by rw [World.size_alloc]; omega) (fun e => hc (hk ▸ h.oh k e.symm)), heap_alloc_old _ _ hl]
  have hbk : w5.heap[b]? = w.heap[b]? := by
    rw [hg.block b (by rw [World.size_alloc]; omega) (fun e => by have e1 := h.ob; have e2 := h.oh b e.symm; omega), heap_alloc_old _ _ hb]
  rw [h.blk] at hbk
  refine ⟨by rw [heap_set_eq hbk]; simp, h.ar.keep fun k hm => keep (h.oa k hm) (by omega) (by omega) (h.ar.lt k hm), h.tab.keep fun k hm => keep (h.ot k hm) (by omega) (by omega) (h.tab.lt k hm), ?_, ?_,
    row_keep h.os fun k hm => keep (h.oo k hm) (by omega) (by omega) (h.os.lt k hm).2, row_keep h.ls fun k hm => keep (h.ol k hm) (by omega) (by omega) (h.ls.lt k hm).2, row_keep h.ts fun k hm => keep (h.ox k hm) (by omega) (by omega) (h.ts.lt k hm).2, ?_, ?_, ?_, ?_, ?_, ?_, ?_, ?_⟩
  · exact row_keep h.us fun k hm => keep (h.ou k hm) (by omega) (by omega) (h.us.lt k hm).2
  · show World.ownsRow _ 0 _ 1 _ (K.holds ++ [0]).length (flat32 (K.holds ++ [0]))
    have e := row_ne hown (a := ⟨b, 3, none⟩) (by simpa [Value.ownBlock] using hbg) (.slice (some ⟨g5, 0, none⟩) (K.holds.length + 1) cap)
    simpa [flat32] using e
  · show retag q _ _ b = 0
    rw [retag_old hb]; exact h.ob
  · intro k hk; show retag q _ _ k = 1; rw [retag_old (h.ar.lt k hk)]; exact h.oa k hk
  · intro k hk; show retag q _ _ k = 2; rw [retag_old (h.tab.lt k hk)]; exact h.ot k hk
  · intro k hk; show retag q _ _ k = 3; rw [retag_old (h.us.lt k hk).2]; exact h.ou k hk
  · intro k hk
    simp [Value.ownBlock] at hk; subst hk
    show retag q _ _ g5 = 4
    rcases hat with e | e
    · rw [retag_old (h.hs.lt g5 e).2]; exact h.oh g5 e
    · unfold retag; rw [if_pos (by omega)]
  · intro k hk; show retag q _ _ k = 5; rw [retag_old (h.os.lt k hk).2]; exact h.oo k hk
  · intro k hk; show retag q _ _ k = 6; rw [retag_old (h.ls.lt k hk).2]; exact h.ol k hk
  · intro k hk; show retag q _ _ k = 7; rw [retag_old (h.ts.lt k hk).2]; exact h.ox k hk
end Go.Proofs.Ytnenhecnkidnpaa
