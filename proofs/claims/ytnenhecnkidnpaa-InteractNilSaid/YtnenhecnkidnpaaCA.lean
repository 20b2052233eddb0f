/- The first example, as data. -/
import Derived.Test.YtnenhecnkidnpaaCN
namespace Go.Proofs.Ytnenhecnkidnpaa

theorem MakeR.is_new {K K' : KV} {v : Int} {lo hi r : Nat} {c : Int} (M : MakeR K v lo hi r c K') (h0 : K.fitsE v lo hi = 0) (hne : lo ≠ hi) (hno : ∀ s, ¬ K.At s v.toNat lo hi) (hu : K.A.used ≠ K.A.places) : c = 0 ∧ K.Made v.toNat lo hi r K' := by
  cases M with
  | bad h => exact absurd h0 h
  | full _ hs _ =>
    rcases hs with hs | hs
    · exact absurd hs.1 hne
    · exact absurd hs.2 (hno _)
  | old _ hs _ =>
    rcases hs with hs | hs
    · exact absurd hs.1 hne
    · exact absurd hs.2 (hno _)
  | nodes _ _ _ h => exact absurd h hu
  | new _ _ _ h => exact ⟨rfl, h⟩

/-- a kernel of variables one above the other, as it began -/
structure Plain (K : KV) (n m : Nat) : Prop where
  ok : K.Ok
  uni : K.Uni
  vr : K.vars = n
  lv : ∀ v, v < n → K.lev v = v
  pl : K.A.places = m

theorem Plain.ext {K K' : KV} {n m : Nat} (h : Plain K n m) (e : K.Ext K') (hk : K'.Ok) (hu : K'.Uni) : Plain K' n m :=
  ⟨hk, hu, e.vr.trans h.vr, fun v hv => (e.lev v).trans (h.lv v hv), e.pl.trans h.pl⟩

theorem plain_new {n m : Nat} (h1 : 1 ≤ n) (hn : n ≤ 64) (h2 : 2 ≤ m) (hm : m ≤ 1048576) : Plain (KV.new n m) n m := by
  refine ⟨KV.new_ok h1 hn h2 hm, (TInv.new n m).uni (KV.new_ok h1 hn h2 hm).wf, rfl, fun v hv => by simp [KV.lev, KV.new, hv], rfl⟩

/-- a variable that is not there yet is made -/
theorem Plain.var {K K' : KV} {n m v r : Nat} {c : Int} (h : Plain K n m) (hv : v < n) (hno : ∀ s, ¬ K.At s v 0 1) (hu : K.A.used < m) (M : MakeR K (v : Int) 0 1 r c K') : c = 0 ∧ K.Made v 0 1 r K' := by
  have hvr := h.vr
  have hpl := h.pl
  refine M.is_new (KV.fits_ok (by omega) (h.ok.tk_const (by omega)) (h.ok.tk_const (by omega)) fun _ => ?_) (by omega) (by simpa using hno) (by omega)
  rw [h.lv v hv, h.ok.wf.dep_const (by omega), h.ok.wf.dep_const (by omega)]
  omega

/-- what stands in a kernel with one node more -/
theorem KV.Made.at_iff {K K' : KV} {v lo hi r : Nat} (M : K.Made v lo hi r K') {s u lo' hi' : Nat} : K'.At s u lo' hi' ↔ (s = r ∧ u = v ∧ lo' = lo ∧ hi' = hi) ∨ K.At s u lo' hi' := by
  constructor
  · intro h
    obtain ⟨h2, p, hp, hpt, e1, e2, e3⟩ := h
    by_cases e : s = r
    · subst e
      rw [M.at_] at hp; cases hp
      simp at e1 e2 e3
      exact .inl ⟨rfl, by omega, e2.symm, e3.symm⟩
    · have ht : K'.A.tk s = true := ArenaV.tk_iff.2 ⟨p, hp, hpt⟩
      rw [M.tk] at ht
      simp [e] at ht
      obtain ⟨p', hp', hpt'⟩ := ArenaV.tk_iff.1 ht
      have := M.ext.nd s p' hp' hpt'
      rw [hp] at this; cases this
      exact .inr ⟨h2, p, hp', hpt, e1, e2, e3⟩
  · rintro (⟨rfl, rfl, rfl, rfl⟩ | ⟨h2, p, hp, hpt, rest⟩)
    · exact ⟨M.two, _, M.at_, rfl, rfl, rfl, rfl⟩
    · exact ⟨h2, p, M.ext.nd s p hp hpt, hpt, rest⟩

/-- two variables stand in the kernel, nothing else -/
structure TwoV (K : KV) (n m r1 r2 : Nat) : Prop where
  pl : Plain K n m
  us : K.A.used = 4
  tk : ∀ x, K.A.tk x = true ↔ x = 0 ∨ x = 1 ∨ x = r1 ∨ x = r2
  d1 : ∀ y, K.den r1 y = y 0
  d2 : ∀ y, K.den r2 y = y 1
  h1 : ∀ x, K.hold x ≤ 1

theorem new_tk (n m x : Nat) : (KV.new n m).A.tk x = true ↔ x < 2 := by
  constructor
  · intro h
    have := ArenaV.tk_lt h
    simp [KV.new, ArenaV.new] at this
    exact this
  · intro h
    obtain rfl | rfl : x = 0 ∨ x = 1 := by omega
    · rfl
    · rfl

theorem two_vars {n m r1 r2 : Nat} {c1 c2 : Int} {K1 K2 : KV} (h2 : 2 ≤ n) (hn : n ≤ 64) (hm4 : 5 ≤ m) (hm : m ≤ 1048576) (k1 : K1.Ok) (u1 : K1.Uni) (k2 : K2.Ok) (u2 : K2.Uni) (M1 : MakeR (KV.new n m) ((0 : Nat) : Int) 0 1 r1 c1 K1) (M2 : MakeR K1 ((1 : Nat) : Int) 0 1 r2 c2 K2) :
    c1 = 0 ∧ c2 = 0 ∧ TwoV K2 n m r1 r2 := by
  have P0 := plain_new (n := n) (m := m) (by omega) hn (by omega) hm
  have no0 : ∀ s u lo hi, ¬ (KV.new n m).At s u lo hi := fun s u lo hi h => by
    have := (new_tk n m s).1 h.tk
    have := h.1
    omega
  have us0 : (KV.new n m).A.used = 2 := rfl
  obtain ⟨e1, A1⟩ := P0.var (by omega) (no0 · 0 0 1) (by omega) M1
  have P1 := P0.ext A1.ext k1 u1
  have us1 := A1.us
  obtain ⟨e2, A2⟩ := P1.var (by omega) (fun s h => by
    rcases A1.at_iff.1 h with ⟨_, h, _⟩ | h
    · omega
    · exact no0 _ _ _ _ h) (by omega) M2
  have P2 := P1.ext A2.ext k2 u2
  have us2 := A2.us
  have at1 : K2.At r1 0 0 1 := A2.at_iff.2 (.inr (A1.at_iff.2 (.inl ⟨rfl, rfl, rfl, rfl⟩)))
  have at2 : K2.At r2 1 0 1 := A2.at_iff.2 (.inl ⟨rfl, rfl, rfl, rfl⟩)
  have c01 : ∀ y, K2.den 0 y = false ∧ K2.den 1 y = true := fun y => ⟨K2.den_const (by omega) y, K2.den_const (by omega) y⟩
  refine ⟨e1, e2, P2, by omega, fun x => ?_, fun y => ?_, fun y => ?_, fun x => ?_⟩
  · rw [A2.tk, A1.tk]
    simp only [Bool.or_eq_true, decide_eq_true_eq, new_tk]
    omega
  · rw [at1.den k2, (c01 y).1, (c01 y).2]; cases y 0 <;> rfl
  · rw [at2.den k2, (c01 y).1, (c01 y).2]; cases y 1 <;> rfl
  · rw [A2.hd]
    have hz : (KV.new n m).hold x = 0 := by simp [KV.hold, KV.new]
    split
    · omega
    · rw [A1.hd]; split <;> omega

theorem opB_and (a b : Bool) : opB 8 a b = (a && b) := by cases a <;> cases b <;> rfl
theorem opB_xor (a b : Bool) : opB 6 a b = (a != b) := by cases a <;> cases b <;> rfl

/-- whatever stands in a kernel that has grown by parts of the and of the two variables -/
theorem TwoV.parts {K K' : KV} {n m r1 r2 : Nat} (h : TwoV K n m r1 r2) (hn : 2 ≤ n) (e : K.Ext K') (k' : K'.Ok) (u' : K'.Uni) {t : (Nat → Bool) → Bool} (ht : ∀ y, t y = (y 0 && y 1)) (hnew : ∀ x, K'.A.tk x = true → K.A.tk x = false → K.SubN t (K'.den x)) (x : Nat) (hx : K'.A.tk x = true) :
    (x = 0 ∨ x = 1 ∨ x = r1 ∨ x = r2) ∨ ∀ y, K'.den x y = (y 0 && y 1) := by
  have wf := h.pl.ok.wf
  have can : ∀ {a b : Nat}, K'.A.tk a = true → K'.A.tk b = true → (∀ y, K'.den a y = K'.den b y) → a = b := fun ha hb h => KV.canon k'.wf k'.ord u' _ _ _ ha hb (Nat.le_refl _) h
  have t2 : K.A.tk r2 = true := (h.tk r2).2 (by simp)
  cases hk : K.A.tk x with
  | true => exact .inl ((h.tk x).1 hk)
  | false =>
    obtain ⟨l, a, hl⟩ := hnew x hx hk
    have hvr := h.pl.vr
    have l0 := h.pl.lv 0 (by omega)
    have l1 := h.pl.lv 1 (by omega)
    have m0 : ∀ y, K.mix l a y 0 = if 0 < l then a 0 else y 0 := fun y => by simp only [KV.mix, l0]; congr 1; simp; omega
    have m1 : ∀ y, K.mix l a y 1 = if 1 < l then a 1 else y 1 := fun y => by simp only [KV.mix, l1]; congr 1; simp; omega
    have hd : ∀ y, K'.den x y = ((if 0 < l then a 0 else y 0) && (if 1 < l then a 1 else y 1)) := fun y => by rw [hl, ht, m0, m1]
    by_cases h0 : 0 < l
    · left
      simp only [h0, if_true] at hd
      cases ha : a 0 with
      | false =>
        left
        refine can hx (k'.tk_const (by omega)) fun y => ?_
        rw [hd, ha, K'.den_const (by omega)]; simp
      | true =>
        by_cases h1 : 1 < l
        · simp only [h1, if_true] at hd
          cases hb : a 1 with
          | false =>
            left
            refine can hx (k'.tk_const (by omega)) fun y => ?_
            rw [hd, ha, hb, K'.den_const (by omega)]; simp
          | true =>
            right; left
            refine can hx (k'.tk_const (by omega)) fun y => ?_
            rw [hd, ha, hb, K'.den_const (by omega)]; simp
        · right; right; right
          simp only [h1, if_false] at hd
          refine can hx (e.tk t2) fun y => ?_
          rw [hd, ha, e.den wf y t2, h.d2]; simp
    · right
      intro y
      rw [hd]; simp only [h0, if_false]
      rw [if_neg (by omega)]

theorem TwoV.fits {K : KV} {n m r1 r2 : Nat} (h : TwoV K n m r1 r2) (hn : 2 ≤ n) (hm : 6 ≤ m) {t : (Nat → Bool) → Bool} (ht : ∀ y, t y = (y 0 && y 1)) : ¬ NoFit K (K.SubN t) := by
  rintro ⟨K', M, g, hk, hu, R, hus, _⟩
  have hp := (h.pl.ext R.ext hk hu).pl
  have parts := h.parts hn R.ext hk hu ht R.new
  by_cases hf : ∃ f, K'.A.tk f = true ∧ ∀ y, K'.den f y = (y 0 && y 1)
  · obtain ⟨f, tf, df⟩ := hf
    have := K'.used_le hk.wf (l := [0, 1, r1, r2, f]) fun x hx => by
      rcases parts x hx with h | h
      · simp; omega
      · have : x = f := KV.canon hk.wf hk.ord hu _ _ _ hx tf (Nat.le_refl _) fun y => by rw [h, df]
        simp [this]
    simp at this; omega
  · have := K'.used_le hk.wf (l := [0, 1, r1, r2]) fun x hx => by
      rcases parts x hx with h | h
      · simp; omega
      · exact absurd ⟨x, hx, h⟩ hf
    simp at this; omega

/-- two variables and their and stand in the kernel -/
structure ThreeN (K : KV) (n m r1 r2 f : Nat) : Prop where
  pl : Plain K n m
  us : K.A.used = 5
  tk : ∀ x, K.A.tk x = true ↔ x = 0 ∨ x = 1 ∨ x = r1 ∨ x = r2 ∨ x = f
  d1 : ∀ y, K.den r1 y = y 0
  d2 : ∀ y, K.den r2 y = y 1
  df : ∀ y, K.den f y = (y 0 && y 1)
  f2 : 2 ≤ f
  hf : K.hold f = 1

theorem TwoV.and {K K' : KV} {n m r1 r2 f : Nat} {c : Int} (h : TwoV K n m r1 r2) (hn : 2 ≤ n) (hm : 6 ≤ m) (k' : K'.Ok) (u' : K'.Uni) (O : OpR K (K.fun3 (fun x y _ => opB 8 x y) r1 r2 0) f c K') : c = 0 ∧ ThreeN K' n m r1 r2 f := by
  have ht : ∀ y, K.fun3 (fun x y _ => opB 8 x y) r1 r2 0 y = (y 0 && y 1) := fun y => by simp only [KV.fun3, opB_and, h.d1, h.d2]
  rcases O with ⟨rfl, O⟩ | ⟨_, _, _, s, _, _, hs⟩ | ⟨_, _, _, hno⟩
  · have wf := h.pl.ok.wf
    have df : ∀ y, K'.den f y = (y 0 && y 1) := fun y => by rw [O.den, ht]
    have t1 : K.A.tk r1 = true := (h.tk r1).2 (by simp)
    have t2 : K.A.tk r2 = true := (h.tk r2).2 (by simp)
    have d1 : ∀ y, K'.den r1 y = y 0 := fun y => by rw [O.ext.den wf y t1, h.d1]
    have d2 : ∀ y, K'.den r2 y = y 1 := fun y => by rw [O.ext.den wf y t2, h.d2]
    have n0 : f ≠ 0 := by
      rintro rfl
      have := df fun _ => true
      rw [K'.den_const (by omega)] at this; cases this
    have n1 : f ≠ 1 := by
      rintro rfl
      have := df fun _ => false
      rw [K'.den_const (by omega)] at this; cases this
    have nr1 : f ≠ r1 := by
      rintro rfl
      have a := df fun v => v == 0
      have b := d1 fun v => v == 0
      rw [a] at b; cases b
    have nr2 : f ≠ r2 := by
      rintro rfl
      have a := df fun v => v == 1
      have b := d2 fun v => v == 1
      rw [a] at b; cases b
    have r10 : r1 ≠ 0 := by
      rintro rfl
      have := d1 fun _ => true
      rw [K'.den_const (by omega)] at this; cases this
    have r11 : r1 ≠ 1 := by
      rintro rfl
      have := d1 fun _ => false
      rw [K'.den_const (by omega)] at this; cases this
    have r20 : r2 ≠ 0 := by
      rintro rfl
      have := d2 fun _ => true
      rw [K'.den_const (by omega)] at this; cases this
    have r21 : r2 ≠ 1 := by
      rintro rfl
      have := d2 fun _ => false
      rw [K'.den_const (by omega)] at this; cases this
    have r12 : r1 ≠ r2 := by
      rintro rfl
      have a := d1 fun v => v == 0
      have b := d2 fun v => v == 0
      rw [a] at b; cases b
    have tk : ∀ x, K'.A.tk x = true ↔ x = 0 ∨ x = 1 ∨ x = r1 ∨ x = r2 ∨ x = f := by
      intro x
      constructor
      · intro hx
        rcases h.parts hn O.ext k' u' ht O.new x hx with h | h
        · omega
        · have : x = f := KV.canon k'.wf k'.ord u' _ _ _ hx O.tk (Nat.le_refl _) fun y => by rw [h, df]
          omega
      · rintro (rfl | rfl | rfl | rfl | rfl)
        · exact k'.tk_const (by omega)
        · exact k'.tk_const (by omega)
        · exact O.ext.tk t1
        · exact O.ext.tk t2
        · exact O.tk
    have hle := K'.used_le k'.wf (l := [0, 1, r1, r2, f]) fun x hx => by
      have := (tk x).1 hx
      simp; omega
    have hge := K'.used_ge k'.wf (l := [0, 1, r1, r2, f]) (by simp; omega) fun x hx => (tk x).2 (by simpa using hx)
    have hf0 : K.hold f = 0 := by
      by_cases hp : 0 < K.hold f
      · have := (h.tk f).1 (wf.ht f hp).2
        omega
      · omega
    refine ⟨rfl, h.pl.ext O.ext k' u', by simp at hle hge; omega, tk, d1, d2, df, by omega, ?_⟩
    rw [O.hd, hf0]; simp; omega
  · have := h.h1 s; omega
  · exact (h.fits hn hm ht hno).elim

theorem ThreeN.xor {K K' : KV} {n m r1 r2 f g : Nat} {c : Int} (h : ThreeN K n m r1 r2 f) (k' : K'.Ok) (u' : K'.Uni) (O : OpR K (K.fun3 (fun x y _ => opB 6 x y) f f 0) g c K') : c = 0 ∧ g = 0 ∧ ThreeN K' n m r1 r2 f := by
  have ok := h.pl.ok
  have ht : ∀ y, K.den 0 y = K.fun3 (fun x y _ => opB 6 x y) f f 0 y := fun y => by
    rw [K.den_const (by omega)]
    simp only [KV.fun3, opB_xor]
    cases K.den f y <;> rfl
  have t0 := ok.tk_const (r := 0) (by omega)
  have hh : K.hold 0 < 65535 := by
    by_cases h0 : 0 < K.hold 0
    · have := (ok.wf.ht 0 h0).1; omega
    · omega
  obtain ⟨e1, e2, Q⟩ := O.live ok k' u' h.pl.uni t0 ht hh
  clear O
  subst e1 e2
  have O := Q
  have same := O.same ok k' u' t0 ht
  have t1 : K.A.tk r1 = true := (h.tk r1).2 (by simp)
  have t2 : K.A.tk r2 = true := (h.tk r2).2 (by simp)
  have tf : K.A.tk f = true := (h.tk f).2 (by simp)
  refine ⟨rfl, rfl, h.pl.ext O.ext k' u', ?_, fun x => (same x).trans (h.tk x), fun y => by rw [O.ext.den ok.wf y t1, h.d1], fun y => by rw [O.ext.den ok.wf y t2, h.d2], fun y => by rw [O.ext.den ok.wf y tf, h.df], h.f2, by rw [O.hd, h.hf]; simp⟩
  have a := K'.used_le k'.wf (l := K.lives) fun x hx => KV.mem_lives.2 ((same x).1 hx)
  have b := K'.used_ge k'.wf K.lives_nodup fun x hx => (same x).2 (KV.mem_lives.1 hx)
  rw [KV.lives_len ok.wf] at a b
  have := h.us
  omega

theorem ThreeN.ite {K K' : KV} {n m r1 r2 f g : Nat} {c : Int} (h : ThreeN K n m r1 r2 f) (k' : K'.Ok) (u' : K'.Uni) (O : OpR K (K.fun3 (fun x y z => if x then y else z) r1 r2 0) g c K') : c = 0 ∧ g = f ∧ K'.A.used = 5 ∧ K'.hold f = 2 := by
  have ok := h.pl.ok
  have ht : ∀ y, K.den f y = K.fun3 (fun x y z => if x then y else z) r1 r2 0 y := fun y => by
    rw [h.df]
    simp only [KV.fun3, h.d1, h.d2, K.den_const (show 0 < 2 by omega)]
    cases y 0 <;> simp
  have tf : K.A.tk f = true := (h.tk f).2 (by simp)
  obtain ⟨e1, e2, Q⟩ := O.live ok k' u' h.pl.uni tf ht (by rw [h.hf]; omega)
  clear O
  subst e1 e2
  have O := Q
  have same := O.same ok k' u' tf ht
  refine ⟨rfl, rfl, ?_, by rw [O.hd, h.hf]; simp [h.f2]⟩
  have a := K'.used_le k'.wf (l := K.lives) fun x hx => KV.mem_lives.2 ((same x).1 hx)
  have b := K'.used_ge k'.wf K.lives_nodup fun x hx => (same x).2 (KV.mem_lives.1 hx)
  rw [KV.lives_len ok.wf] at a b
  have := h.us
  omega
end Go.Proofs.Ytnenhecnkidnpaa
