/- What an operation answers and leaves: the plain side. -/
import Derived.Test.YtnenhecnkidnpaaAO
namespace Go.Proofs.Ytnenhecnkidnpaa

/-- What is held in K0 and stands in K' too. -/
theorem ext_back {K0 K1 K' : KV} (h0 : K0.Ok) (h' : K'.Ok) (e0 : K0.Ext K1) (e' : K'.Ext K1) (hd : ∀ x, 0 < K0.hold x → 0 < K'.hold x) : K0.Ext K' := by
  have same : ∀ (r : Nat) (p : PlaceV), K0.A.list[r]? = some p → p.taken = true → K'.A.tk r = true → K'.A.list[r]? = some p := by
    intro r p hp hpt ht
    obtain ⟨p', hp', hpt'⟩ := ArenaV.tk_iff.1 ht
    have a := e0.nd r p hp hpt
    have b := e'.nd r p' hp' hpt'
    rw [a] at b; cases b; exact hp'
  have reach : ∀ {r : Nat}, K0.Reach r → K'.A.tk r = true := by
    intro r hr
    induction hr with
    | root h => exact (h'.wf.ht _ (hd _ h)).2
    | lo _ h2 hp hpt ih => exact (h'.wf.cl _ _ h2 (same _ _ hp hpt ih) hpt).1
    | hi _ h2 hp hpt ih => exact (h'.wf.cl _ _ h2 (same _ _ hp hpt ih) hpt).2
  refine ⟨fun r p hp hpt => same r p hp hpt ?_, by rw [← e'.pl, e0.pl], by rw [← e'.vr, e0.vr], by rw [← e'.od, e0.od], by rw [← e'.lv, e0.lv]⟩
  by_cases h2 : 2 ≤ r
  · exact reach (KV.live_reach h0.wf h0.pos h0.ord _ r h2 (ArenaV.tk_iff.2 ⟨p, hp, hpt⟩) (Nat.le_refl _))
  · exact h'.tk_const (by omega)

/-- it went well -/
structure OpOk (K0 : KV) (t : (Nat → Bool) → Bool) (r : Nat) (K' : KV) : Prop where
  ext : K0.Ext K'
  tk : K'.A.tk r = true
  den : ∀ x, K'.den r x = t x
  hd : ∀ x, K'.hold x = K0.hold x + (if x = r ∧ 2 ≤ r then 1 else 0)
  tr : K'.trail = []
  new : ∀ x, K'.A.tk x = true → K0.A.tk x = false → K0.SubN t (K'.den x)

/-- nothing has turned, but for the trail -/
structure OpBad (K0 K' : KV) : Prop where
  ext : K0.Ext K'
  back : K'.Ext K0
  hd : ∀ x, K'.hold x = K0.hold x
  tr : K'.trail = [] ∨ K'.trail = K0.trail

def OpR (K0 : KV) (t : (Nat → Bool) → Bool) (r : Nat) (code : Int) (K' : KV) : Prop :=
  (code = 0 ∧ OpOk K0 t r K') ∨ (code = 8 ∧ r = 0 ∧ OpBad K0 K' ∧ ∃ s, K0.A.tk s = true ∧ (∀ x, K0.den s x = t x) ∧ K0.hold s = 65535) ∨ (code = 9 ∧ r = 0 ∧ OpBad K0 K' ∧ NoFit K0 (K0.SubN t))

theorem op_of {K0 K1 K' : KV} {L : Bool → Bool → Bool → Bool} {f g h r : Nat} {code : Int} {M : List Nat} (h0 : K0.Ok) (_h1 : K1.Ok) (h' : K'.Ok) (hA : AskQ K0 f g h) (S : StepR K0 K0 L (K0.SubN (K0.fun3 L f g h)) f g h [] r code K1 M) (X : EndX K0 K1 M r code K') :
    OpR K0 (K0.fun3 L f g h) (endR M r code).1 (endR M r code).2 K' := by
  have back : K0.Ext K' := ext_back h0 h' S.run.ext X.ext fun x hx => by rw [X.hd]; omega
  have bad : (∀ x, K'.hold x = K0.hold x) → ¬ (code = 0 ∧ r < 2) → OpBad K0 K' := fun hd hn => by
    refine ⟨back, ext_back h' h0 X.ext S.run.ext fun x hx => by rw [← hd]; exact hx, hd, ?_⟩
    by_cases hm : M = []
    · right
      rw [X.nil hm hn, S.run.nil hm]
    · exact .inl (X.tr hm)
  rcases S.ans with ⟨rfl, G⟩ | ⟨rfl, hno⟩
  · have hden : ∀ x, K1.den r x = K0.fun3 L f g h x := fun x => by rw [G.den, S.run.ext.fun3 h0.wf hA.t0 hA.t1 hA.t2]
    by_cases hk : r < 2 ∨ r ∈ M
    · have e1 : endR M r 0 = (r, 0) := by unfold endR; rw [if_neg (by simp), if_pos hk]
      rw [e1]
      left
      have hd : ∀ x, K'.hold x = K0.hold x + (if x = r ∧ 2 ≤ r then 1 else 0) := fun x => by
        rw [X.hd]
        congr 1
        by_cases ex : x = r
        · subst ex
          by_cases h2 : 2 ≤ x
          · have hm : x ∈ M := hk.resolve_left (by omega)
            simp [h2, hm]
          · simp [h2]
        · simp [ex]
      have tk : K'.A.tk r = true := by
        by_cases h2 : 2 ≤ r
        · exact (h'.wf.ht r (by rw [hd]; simp [h2])).2
        · exact h'.tk_const (by omega)
      refine ⟨rfl, back, tk, fun x => ?_, hd, ?_, fun x t1 t2 => ?_⟩
      · rw [← X.ext.den h'.wf x tk]; exact hden x
      · by_cases h2 : r < 2
        · exact X.tc rfl h2
        · have hm : r ∈ M := hk.resolve_left h2
          exact X.tr (by rintro rfl; cases hm)
      · have := S.run.new x (X.ext.tk t1) t2
        have e : K1.den x = K'.den x := by funext y; exact X.ext.den h'.wf y t1
        rw [← e]; exact this
    · have h2 : ¬ r < 2 := fun h => hk (.inl h)
      have hm : r ∉ M := fun h => hk (.inr h)
      have e1 : endR M r 0 = (0, 8) := by unfold endR; rw [if_neg (by simp), if_neg hk]
      rw [e1]
      right; left
      have hf : K0.hold r = 65535 := (G.got.resolve_left h2).resolve_left hm
      have tk0 := (h0.wf.ht r (by omega)).2
      refine ⟨rfl, rfl, bad (fun x => by rw [X.hd]; simp [hm]) (fun h => h2 h.2), r, tk0, fun x => ?_, hf⟩
      rw [← S.run.ext.den h0.wf x tk0]; exact hden x
  · have e1 : endR M r 9 = (0, 9) := by unfold endR; rw [if_pos (by decide)]
    rw [e1]
    right; right
    exact ⟨rfl, rfl, bad (fun x => by rw [X.hd]; simp) (by simp), hno⟩
end Go.Proofs.Ytnenhecnkidnpaa
