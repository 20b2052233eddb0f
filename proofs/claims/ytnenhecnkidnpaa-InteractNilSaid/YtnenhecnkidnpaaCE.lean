/- Two variables and their and, as data. -/
import Derived.Test.YtnenhecnkidnpaaCA
namespace Go.Proofs.Ytnenhecnkidnpaa

/-- two variables stand in the kernel, nothing else -/
structure TwoW (K : KV) (n m a b r1 r2 : Nat) : Prop where
  ab : a < b ∧ b < n
  pl : Plain K n m
  us : K.A.used = 4
  tk : ∀ x, K.A.tk x = true ↔ x = 0 ∨ x = 1 ∨ x = r1 ∨ x = r2
  d1 : ∀ y, K.den r1 y = y a
  d2 : ∀ y, K.den r2 y = y b
  h1 : ∀ x, K.hold x ≤ 1

theorem two_vars2 {n m a b r1 r2 : Nat} {c1 c2 : Int} {K1 K2 : KV} (hab : a < b ∧ b < n) (hn : n ≤ 64) (hm4 : 5 ≤ m) (hm : m ≤ 1048576) (k1 : K1.Ok) (u1 : K1.Uni) (k2 : K2.Ok) (u2 : K2.Uni) (M1 : MakeR (KV.new n m) (a : Int) 0 1 r1 c1 K1) (M2 : MakeR K1 (b : Int) 0 1 r2 c2 K2) :
    c1 = 0 ∧ c2 = 0 ∧ TwoW K2 n m a b r1 r2 := by
  have P0 := plain_new (n := n) (m := m) (by omega) hn (by omega) hm
  have no0 : ∀ s u lo hi, ¬ (KV.new n m).At s u lo hi := fun s u lo hi h => by
    have := (new_tk n m s).1 h.tk
    have := h.1
    omega
  have us0 : (KV.new n m).A.used = 2 := rfl
  obtain ⟨e1, A1⟩ := P0.var (by omega) (no0 · a 0 1) (by omega) M1
  have P1 := P0.ext A1.ext k1 u1
  have us1 := A1.us
  obtain ⟨e2, A2⟩ := P1.var (by omega) (fun s h => by
    rcases A1.at_iff.1 h with ⟨_, h, _⟩ | h
    · omega
    · exact no0 _ _ _ _ h) (by omega) M2
  have P2 := P1.ext A2.ext k2 u2
  have us2 := A2.us
  have at1 : K2.At r1 a 0 1 := A2.at_iff.2 (.inr (A1.at_iff.2 (.inl ⟨rfl, rfl, rfl, rfl⟩)))
  have at2 : K2.At r2 b 0 1 := A2.at_iff.2 (.inl ⟨rfl, rfl, rfl, rfl⟩)
  have c01 : ∀ y, K2.den 0 y = false ∧ K2.den 1 y = true := fun y => ⟨K2.den_const (by omega) y, K2.den_const (by omega) y⟩
  refine ⟨e1, e2, hab, P2, by omega, fun x => ?_, fun y => ?_, fun y => ?_, fun x => ?_⟩
  · rw [A2.tk, A1.tk]
    simp only [Bool.or_eq_true, decide_eq_true_eq, new_tk]
    omega
  · rw [at1.den k2, (c01 y).1, (c01 y).2]; cases y a <;> rfl
  · rw [at2.den k2, (c01 y).1, (c01 y).2]; cases y b <;> rfl
  · rw [A2.hd]
    have hz : (KV.new n m).hold x = 0 := by simp [KV.hold, KV.new]
    split
    · omega
    · rw [A1.hd]; split <;> omega

/-- whatever stands in a kernel that has grown by parts of the and of the two variables -/
theorem TwoW.parts {K K' : KV} {n m a b r1 r2 : Nat} (h : TwoW K n m a b r1 r2) (e : K.Ext K') (k' : K'.Ok) (u' : K'.Uni) {t : (Nat → Bool) → Bool} (ht : ∀ y, t y = (y a && y b)) (hnew : ∀ x, K'.A.tk x = true → K.A.tk x = false → K.SubN t (K'.den x)) (x : Nat) (hx : K'.A.tk x = true) :
    (x = 0 ∨ x = 1 ∨ x = r1 ∨ x = r2) ∨ ∀ y, K'.den x y = (y a && y b) := by
  have wf := h.pl.ok.wf
  have can : ∀ {c d : Nat}, K'.A.tk c = true → K'.A.tk d = true → (∀ y, K'.den c y = K'.den d y) → c = d := fun ha hb h => KV.canon k'.wf k'.ord u' _ _ _ ha hb (Nat.le_refl _) h
  have t2 : K.A.tk r2 = true := (h.tk r2).2 (by simp)
  cases hk : K.A.tk x with
  | true => exact .inl ((h.tk x).1 hk)
  | false =>
    obtain ⟨l, z, hl⟩ := hnew x hx hk
    have hvr := h.pl.vr
    have hab := h.ab
    have l0 := h.pl.lv a (by omega)
    have l1 := h.pl.lv b (by omega)
    have m0 : ∀ y, K.mix l z y a = if a < l then z a else y a := fun y => by simp only [KV.mix, l0]; congr 1; simp; omega
    have m1 : ∀ y, K.mix l z y b = if b < l then z b else y b := fun y => by simp only [KV.mix, l1]; congr 1; simp; omega
    have hd : ∀ y, K'.den x y = ((if a < l then z a else y a) && (if b < l then z b else y b)) := fun y => by rw [hl, ht, m0, m1]
    by_cases h0 : a < l
    · left
      simp only [h0, if_true] at hd
      cases ha : z a with
      | false =>
        left
        refine can hx (k'.tk_const (by omega)) fun y => ?_
        rw [hd, ha, K'.den_const (by omega)]; simp
      | true =>
        by_cases h1 : b < l
        · simp only [h1, if_true] at hd
          cases hb : z b with
          | false =>
            left
            refine can hx (k'.tk_const (by omega)) fun y => ?_
            rw [hd, ha, hb, K'.den_const (by omega)]; simp
          | true =>
            right; left
            refine can hx (k'.tk_const (by omega)) fun y => ?_
            rw [hd, ha, hb, K'.den_const (by omega)]; simp
        · right; right; right
          simp only [h1, if_false] at hd
          refine can hx (e.tk t2) fun y => ?_
          rw [hd, ha, e.den wf y t2, h.d2]; simp
    · right
      intro y
      rw [hd]; simp only [h0, if_false]
      rw [if_neg (by omega)]

theorem TwoW.fits {K : KV} {n m a b r1 r2 : Nat} (h : TwoW K n m a b r1 r2) (hm : 6 ≤ m) {t : (Nat → Bool) → Bool} (ht : ∀ y, t y = (y a && y b)) : ¬ NoFit K (K.SubN t) := by
  rintro ⟨K', M, g, hk, hu, R, hus, _⟩
  have hp := (h.pl.ext R.ext hk hu).pl
  have parts := h.parts R.ext hk hu ht R.new
  by_cases hf : ∃ f, K'.A.tk f = true ∧ ∀ y, K'.den f y = (y a && y b)
  · obtain ⟨f, tf, df⟩ := hf
    have := K'.used_le hk.wf (l := [0, 1, r1, r2, f]) fun x hx => by
      rcases parts x hx with h | h
      · simp; omega
      · have : x = f := KV.canon hk.wf hk.ord hu _ _ _ hx tf (Nat.le_refl _) fun y => by rw [h, df]
        simp [this]
    simp at this; omega
  · have := K'.used_le hk.wf (l := [0, 1, r1, r2]) fun x hx => by
      rcases parts x hx with h | h
      · simp; omega
      · exact absurd ⟨x, hx, h⟩ hf
    simp at this; omega

/-- two variables and their and stand in the kernel -/
structure ThreeW (K : KV) (n m a b r1 r2 f : Nat) : Prop where
  pl : Plain K n m
  us : K.A.used = 5
  tk : ∀ x, K.A.tk x = true ↔ x = 0 ∨ x = 1 ∨ x = r1 ∨ x = r2 ∨ x = f
  d1 : ∀ y, K.den r1 y = y a
  d2 : ∀ y, K.den r2 y = y b
  df : ∀ y, K.den f y = (y a && y b)
  f2 : 2 ≤ f
  hf : K.hold f = 1

theorem TwoW.and {K K' : KV} {n m a b r1 r2 f : Nat} {c : Int} (h : TwoW K n m a b r1 r2) (hm : 6 ≤ m) (k' : K'.Ok) (u' : K'.Uni) (O : OpR K (K.fun3 (fun x y _ => opB 8 x y) r1 r2 0) f c K') : c = 0 ∧ ThreeW K' n m a b r1 r2 f := by
  have ht : ∀ y, K.fun3 (fun x y _ => opB 8 x y) r1 r2 0 y = (y a && y b) := fun y => by simp only [KV.fun3, opB_and, h.d1, h.d2]
  rcases O with ⟨rfl, O⟩ | ⟨_, _, _, s, _, _, hs⟩ | ⟨_, _, _, hno⟩
  · have wf := h.pl.ok.wf
    have df : ∀ y, K'.den f y = (y a && y b) := fun y => by rw [O.den, ht]
    have t1 : K.A.tk r1 = true := (h.tk r1).2 (by simp)
    have t2 : K.A.tk r2 = true := (h.tk r2).2 (by simp)
    have d1 : ∀ y, K'.den r1 y = y a := fun y => by rw [O.ext.den wf y t1, h.d1]
    have d2 : ∀ y, K'.den r2 y = y b := fun y => by rw [O.ext.den wf y t2, h.d2]
    have n0 : f ≠ 0 := by
      rintro rfl
      have := df fun _ => true
      rw [K'.den_const (by omega)] at this; cases this
    have n1 : f ≠ 1 := by
      rintro rfl
      have := df fun _ => false
      rw [K'.den_const (by omega)] at this; cases this
    have nr1 : f ≠ r1 := by
      rintro rfl
      have aa := df fun v => v == a
      have bb := d1 fun v => v == a
      rw [aa] at bb; simp at bb; have hh := h.ab; omega
    have nr2 : f ≠ r2 := by
      rintro rfl
      have aa := df fun v => v == b
      have bb := d2 fun v => v == b
      rw [aa] at bb; simp at bb; have hh := h.ab; omega
    have r10 : r1 ≠ 0 := by
      rintro rfl
      have := d1 fun _ => true
      rw [K'.den_const (by omega)] at this; cases this
    have r11 : r1 ≠ 1 := by
      rintro rfl
      have := d1 fun _ => false
      rw [K'.den_const (by omega)] at this; cases this
    have r20 : r2 ≠ 0 := by
      rintro rfl
      have := d2 fun _ => true
      rw [K'.den_const (by omega)] at this; cases this
    have r21 : r2 ≠ 1 := by
      rintro rfl
      have := d2 fun _ => false
      rw [K'.den_const (by omega)] at this; cases this
    have r12 : r1 ≠ r2 := by
      rintro rfl
      have aa := d1 fun v => v == a
      have bb := d2 fun v => v == a
      rw [aa] at bb; simp at bb; have hh := h.ab; omega
    have tk : ∀ x, K'.A.tk x = true ↔ x = 0 ∨ x = 1 ∨ x = r1 ∨ x = r2 ∨ x = f := by
      intro x
      constructor
      · intro hx
        rcases h.parts O.ext k' u' ht O.new x hx with h | h
        · omega
        · have : x = f := KV.canon k'.wf k'.ord u' _ _ _ hx O.tk (Nat.le_refl _) fun y => by rw [h, df]
          omega
      · rintro (rfl | rfl | rfl | rfl | rfl)
        · exact k'.tk_const (by omega)
        · exact k'.tk_const (by omega)
        · exact O.ext.tk t1
        · exact O.ext.tk t2
        · exact O.tk
    have hle := K'.used_le k'.wf (l := [0, 1, r1, r2, f]) fun x hx => by
      have := (tk x).1 hx
      simp; omega
    have hge := K'.used_ge k'.wf (l := [0, 1, r1, r2, f]) (by simp; omega) fun x hx => (tk x).2 (by simpa using hx)
    have hf0 : K.hold f = 0 := by
      by_cases hp : 0 < K.hold f
      · have := (h.tk f).1 (wf.ht f hp).2
        omega
      · omega
    refine ⟨rfl, h.pl.ext O.ext k' u', by simp at hle hge; omega, tk, d1, d2, df, by omega, ?_⟩
    rw [O.hd, hf0]; simp; omega
  · have := h.h1 s; omega
  · exact (h.fits hm ht hno).elim

end Go.Proofs.Ytnenhecnkidnpaa
