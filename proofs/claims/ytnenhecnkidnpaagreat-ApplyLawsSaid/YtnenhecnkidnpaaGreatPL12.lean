/- Tables by their values: constants, variables, cofactors; no program is named. -/
import Derived.Test.YtnenhecnkidnpaaGreatPL11
namespace Go.Proofs.YtnenhecnkidnpaaGreat
open Go.RowKit

def mkT (n : Nat) (f : Nat → Bool) : TV := ⟨n, (List.range (wordsN n)).map fun i => ((idx 64 fun j => decide (64 * i + j < 2 ^ n) && f (64 * i + j) : Nat) : Int)⟩

theorem nb_cast (m i : Nat) : nb (m : Int) i = m.testBit i := by simp [nb]

theorem mkT_word (n : Nat) (f : Nat → Bool) {i : Nat} (hi : i < wordsN n) : (mkT n f).ws.getD i 0 = ((idx 64 fun j => decide (64 * i + j < 2 ^ n) && f (64 * i + j) : Nat) : Int) := by
  rw [List.getD_eq_getElem?_getD]
  simp [mkT, hi]

theorem mkT_ok {n : Nat} (f : Nat → Bool) (hn : n ≤ 16) : (mkT n f).Ok := by
  refine ⟨hn, by simp [mkT], fun x hx => ?_, fun h6 x hx i hi => ?_⟩
  · simp only [mkT, List.mem_map] at hx
    obtain ⟨i, _, rfl⟩ := hx
    have := idx_lt 64 fun j => decide (64 * i + j < 2 ^ n) && f (64 * i + j)
    unfold U64; omega
  · have h6' : n < 6 := h6
    have hi' : 2 ^ n ≤ i := hi
    simp only [mkT, List.mem_map, List.mem_range] at hx
    obtain ⟨j, hj, rfl⟩ := hx
    have hj0 : j = 0 := by unfold wordsN at hj; rw [if_pos (by omega)] at hj; omega
    subst hj0
    rw [nb_cast, idx_bit]
    simp; intro _ h; omega

theorem mkT_bit {n : Nat} (f : Nat → Bool) {x : Nat} (hx : x < 2 ^ n) : (mkT n f).bit x = f x := by
  unfold TV.bit
  rw [mkT_word n f (div64_lt hx), nb_cast, idx_bit]
  have e : 64 * (x / 64) + x % 64 = x := by omega
  simp only [e, hx, decide_true, Bool.true_and]
  have : x % 64 < 64 := Nat.mod_lt _ (by omega)
  simp [this]

theorem mkT_n (n : Nat) (f : Nat → Bool) : (mkT n f).n = n := rfl

theorem mkT_eq {t : TV} (ht : t.Ok) {f : Nat → Bool} (h : ∀ x, x < 2 ^ t.n → t.bit x = f x) : t = mkT t.n f :=
  TV.ext ht (mkT_ok f ht.n16) rfl fun x hx => by rw [h x hx, mkT_bit f hx]

theorem mkT_fn {n : Nat} (f : Nat → Bool) (y : Nat → Bool) : (mkT n f).fn y = f (idx n y) := by
  unfold TV.fn; rw [mkT_n, mkT_bit f (idx_lt n y)]

def constT (n : Nat) (b : Bool) : TV := mkT n fun _ => b
def varT (n v : Nat) : TV := mkT n fun x => x.testBit v
def cofT (t : TV) (v : Nat) (b : Bool) : TV := mkT t.n fun x => t.bit (setb x v b)

theorem constT_fn (n : Nat) (b : Bool) (y : Nat → Bool) : (constT n b).fn y = b := mkT_fn _ y
theorem cofT_fn {t : TV} {v : Nat} (hv : v < t.n) (b : Bool) (y : Nat → Bool) : (cofT t v b).fn y = t.fn (upd y v b) := by
  unfold cofT; rw [mkT_fn, setb_idx hv]; rfl
theorem cofT_ok {t : TV} (ht : t.Ok) (v : Nat) (b : Bool) : (cofT t v b).Ok := mkT_ok _ ht.n16

/-- does the function of a table depend on a variable? -/
def depT (t : TV) (v : Nat) : Bool := !decide (cofT t v false = cofT t v true)

theorem depT_iff {t : TV} (ht : t.Ok) {v : Nat} (hv : v < t.n) : depT t v = true ↔ Hangs t.fn v := by
  unfold depT
  rw [Bool.not_eq_true', decide_eq_false_iff_not]
  constructor
  · intro hne
    by_cases hh : ∃ y, t.fn (upd y v true) ≠ t.fn (upd y v false)
    · exact hh
    · exfalso
      refine hne (TV.fn_ext (cofT_ok ht v false) (cofT_ok ht v true) rfl fun y => ?_)
      rw [cofT_fn hv, cofT_fn hv]
      by_cases h : t.fn (upd y v false) = t.fn (upd y v true)
      · exact h
      · exact absurd ⟨y, fun e => h e.symm⟩ hh
  · rintro ⟨y, hy⟩ e
    exact hy (by rw [← cofT_fn hv true y, ← cofT_fn hv false y, e])

/-! ### the words of a cofactor, as the code reckons them -/
theorem setb_low {x v : Nat} (b : Bool) (hv : v < 6) : setb x v b / 64 = x / 64 ∧ setb x v b % 64 = setb (x % 64) v b := by
  constructor
  · apply Nat.eq_of_testBit_eq
    intro i
    rw [show (64 : Nat) = 2 ^ 6 from rfl, Nat.testBit_div_two_pow, Nat.testBit_div_two_pow, setb_bit, if_neg (by omega)]
  · apply Nat.eq_of_testBit_eq
    intro i
    rw [show (64 : Nat) = 2 ^ 6 from rfl, Nat.testBit_mod_two_pow, setb_bit, setb_bit, Nat.testBit_mod_two_pow]
    by_cases h : i = v
    · subst h; simp [hv]
    · simp [h]

theorem u64_zero : U64 0 := by unfold U64; omega

theorem nb_shr {x : Int} (hx : U64 x) (k i : Nat) : U64 (x / 2 ^ k) ∧ nb (x / 2 ^ k) i = nb x (i + k) := by
  obtain ⟨n, rfl⟩ : ∃ n : Nat, x = (n : Int) := ⟨x.toNat, by unfold U64 at hx; omega⟩
  have e : ((n : Int) / 2 ^ k) = ((n / 2 ^ k : Nat) : Int) := by push_cast; rfl
  refine ⟨?_, ?_⟩
  · rw [e]
    have h1 := Nat.div_le_self n (2 ^ k)
    generalize n / 2 ^ k = m at h1 ⊢
    unfold U64 at hx ⊢; omega
  · rw [e, nb_cast, nb_cast, Nat.testBit_div_two_pow, Nat.add_comm]

theorem nb_shl {x : Int} (hx : U64 x) (k i : Nat) : nb (IntKind.u64.wrap (x * 2 ^ k)) i = (decide (i < 64) && (decide (k ≤ i) && nb x (i - k))) := by
  obtain ⟨n, rfl⟩ : ∃ n : Nat, x = (n : Int) := ⟨x.toNat, by unfold U64 at hx; omega⟩
  have e : IntKind.u64.wrap ((n : Int) * 2 ^ k) = ((n * 2 ^ k % 18446744073709551616 : Nat) : Int) := by
    have h1 : IntKind.u64.wrap ((n : Int) * 2 ^ k) = ((n : Int) * 2 ^ k) % 18446744073709551616 := rfl
    have h2 : (n : Int) * 2 ^ k = ((n * 2 ^ k : Nat) : Int) := by push_cast; rfl
    rw [h1, h2]
    generalize n * 2 ^ k = m
    omega
  rw [e, nb_cast, nb_cast, show (18446744073709551616 : Nat) = 2 ^ 64 from rfl, Nat.testBit_mod_two_pow, Nat.testBit_mul_two_pow]

/-- a word's cofactor -/
def cofW (v : Nat) (b : Bool) (ones w : Int) : Int :=
  if b then bits BinOp.or IntKind.u64 (bits BinOp.and IntKind.u64 w ones) (bits BinOp.and IntKind.u64 w ones / 2 ^ (2 ^ v))
  else bits BinOp.or IntKind.u64 (bits BinOp.andNot IntKind.u64 w ones) (IntKind.u64.wrap (bits BinOp.andNot IntKind.u64 w ones * 2 ^ (2 ^ v)))

theorem low_facts : ∀ v, v < 6 → ∀ i, i < 64 → (((i + 2 ^ v).testBit v = !i.testBit v) ∧ (i.testBit v = true → 2 ^ v ≤ i ∧ (i - 2 ^ v).testBit v = false) ∧ (2 ^ v ≤ i → i.testBit v = false → (i - 2 ^ v).testBit v = true)) := by decide +kernel

theorem cofW_bit {v : Nat} (hv : v < 6) (b : Bool) {ones w : Int} (hw : U64 w) (ho : U64 ones) (hob : ∀ i, i < 64 → nb ones i = i.testBit v) : U64 (cofW v b ones w) ∧ ∀ i, i < 64 → nb (cofW v b ones w) i = nb w (setb i v b) := by
  have p6 : (2 : Nat) ^ v ≤ 32 := by
    have : (2 : Nat) ^ v ≤ 2 ^ 5 := Nat.pow_le_pow_right (by omega) (by omega)
    omega
  unfold cofW
  cases b with
  | true =>
    rw [if_pos rfl]
    have hA := bits_u64 BinOp.and w ones
    have hS := fun i => nb_shr hA (2 ^ v) i
    refine ⟨bits_u64 _ _ _, fun i hi => ?_⟩
    obtain ⟨f1, f2, f3⟩ := low_facts v hv i hi
    rw [nb_or hA (hS 0).1, (hS i).2, nb_and hw ho, nb_and hw ho, hob i hi]
    unfold setb
    cases hb : i.testBit v with
    | true =>
      rw [if_pos rfl]
      have : nb ones (i + 2 ^ v) = false := by
        by_cases h64 : i + 2 ^ v < 64
        · rw [hob _ h64, f1, hb]; rfl
        · exact nb_high ho (by omega)
      rw [this]; simp
    | false =>
      simp only [Bool.false_eq_true, if_false, if_true, Bool.and_false, Bool.false_or]
      by_cases h64 : i + 2 ^ v < 64
      · rw [hob _ h64, f1, hb]; simp
      · rw [nb_high hw (by omega)]; simp
  | false =>
    simp only [Bool.false_eq_true, if_false]
    have hA := bits_u64 BinOp.andNot w ones
    refine ⟨bits_u64 _ _ _, fun i hi => ?_⟩
    obtain ⟨f1, f2, f3⟩ := low_facts v hv i hi
    have hsub := Nat.sub_le i (2 ^ v)
    rw [nb_or hA (wrap_u64 _), nb_shl hA, nb_andNot hw ho hi, hob i hi]
    unfold setb
    cases hb : i.testBit v with
    | true =>
      obtain ⟨g1, g2⟩ := f2 hb
      simp only [Bool.not_true, Bool.and_false, Bool.false_or, hi, decide_true, Bool.true_and, g1]
      rw [nb_andNot hw ho (by omega), hob _ (by omega), g2]; simp
    | false =>
      rw [if_pos rfl]
      simp only [Bool.not_false, Bool.and_true, hi, decide_true, Bool.true_and]
      by_cases hle : 2 ^ v ≤ i
      · rw [nb_andNot hw ho (by omega), hob _ (by omega), f3 hle hb]; simp
      · simp [hle]

/-- the cofactor's words, of a variable within words -/
theorem cof_low {t : TV} (ht : t.Ok) {v : Nat} (hv : v < 6) (hvn : v < t.n) (b : Bool) {ones : Int} (ho : U64 ones) (hob : ∀ i, i < 64 → nb ones i = i.testBit v) : cofT t v b = ⟨t.n, t.ws.map (cofW v b ones)⟩ := by
  have hok : (⟨t.n, t.ws.map (cofW v b ones)⟩ : TV).Ok := by
    refine ⟨ht.n16, by simp [ht.len], fun x hx => ?_, fun h6 x hx i hi => ?_⟩
    · obtain ⟨w, hw, rfl⟩ := List.mem_map.1 hx
      exact (cofW_bit hv b (ht.u w hw) ho hob).1
    · obtain ⟨w, hw, rfl⟩ := List.mem_map.1 hx
      have hc := cofW_bit hv b (ht.u w hw) ho hob
      by_cases h64 : i < 64
      · rw [hc.2 i h64]
        have h6' : t.n < 6 := h6
        have hi' : 2 ^ t.n ≤ i := hi
        refine ht.low h6' w hw _ ?_
        by_cases hlt : setb i v b < 2 ^ t.n
        · exfalso
          have : setb (setb i v b) v (i.testBit v) = i := by
            apply Nat.eq_of_testBit_eq
            intro u
            rw [setb_bit, setb_bit]
            by_cases hu : u = v
            · subst hu; simp
            · simp [hu]
          have h2 := setb_lt (i.testBit v) hlt hvn
          rw [this] at h2; omega
        · omega
      · exact nb_high hc.1 (by omega)
  refine (mkT_eq hok fun x hx => ?_).symm
  have hd := div64_lt (n := t.n) hx
  obtain ⟨w1, w2, w3⟩ := ht.word hd
  unfold TV.bit
  have e : (t.ws.map (cofW v b ones)).getD (x / 64) 0 = cofW v b ones (t.ws.getD (x / 64) 0) := by
    rw [List.getD_eq_getElem?_getD, List.getElem?_map, w3]; rfl
  show nb ((t.ws.map (cofW v b ones)).getD (x / 64) 0) (x % 64) = nb (t.ws.getD (setb x v b / 64) 0) (setb x v b % 64)
  rw [e, (cofW_bit hv b w1 ho hob).2 _ (Nat.mod_lt _ (by omega)), (setb_low b hv).1, (setb_low b hv).2]

end Go.Proofs.YtnenhecnkidnpaaGreat


/- The first example, as data. -/
namespace Go.Proofs.YtnenhecnkidnpaaGreat

theorem MakeR.is_new {K K' : KV} {v : Int} {lo hi r : Nat} {c : Int} (M : MakeR K v lo hi r c K') (h0 : K.fitsE v lo hi = 0) (hne : lo ≠ hi) (hno : ∀ s, ¬ K.At s v.toNat lo hi) (hu : K.A.used ≠ K.A.places) : c = 0 ∧ K.Made v.toNat lo hi r K' := by
  cases M with
  | bad h => exact absurd h0 h
  | full _ hs _ =>
    rcases hs with hs | hs
    · exact absurd hs.1 hne
    · exact absurd hs.2 (hno _)
  | old _ hs _ =>
    rcases hs with hs | hs
    · exact absurd hs.1 hne
    · exact absurd hs.2 (hno _)
  | nodes _ _ _ h => exact absurd h hu
  | new _ _ _ h => exact ⟨rfl, h⟩

/-- a kernel of variables one above the other, as it began -/
structure Plain (K : KV) (n m : Nat) : Prop where
  ok : K.Ok
  uni : K.Uni
  vr : K.vars = n
  lv : ∀ v, v < n → K.lev v = v
  pl : K.A.places = m

theorem Plain.ext {K K' : KV} {n m : Nat} (h : Plain K n m) (e : K.Ext K') (hk : K'.Ok) (hu : K'.Uni) : Plain K' n m :=
  ⟨hk, hu, e.vr.trans h.vr, fun v hv => (e.lev v).trans (h.lv v hv), e.pl.trans h.pl⟩

theorem plain_new {n m : Nat} (h1 : 1 ≤ n) (hn : n ≤ 64) (h2 : 2 ≤ m) (hm : m ≤ 1048576) : Plain (KV.new n m) n m := by
  refine ⟨KV.new_ok h1 hn h2 hm, (TInv.new n m).uni (KV.new_ok h1 hn h2 hm).wf, rfl, fun v hv => by simp [KV.lev, KV.new, hv], rfl⟩

/-- a variable that is not there yet is made -/
theorem Plain.var {K K' : KV} {n m v r : Nat} {c : Int} (h : Plain K n m) (hv : v < n) (hno : ∀ s, ¬ K.At s v 0 1) (hu : K.A.used < m) (M : MakeR K (v : Int) 0 1 r c K') : c = 0 ∧ K.Made v 0 1 r K' := by
  have hvr := h.vr
  have hpl := h.pl
  refine M.is_new (KV.fits_ok (by omega) (h.ok.tk_const (by omega)) (h.ok.tk_const (by omega)) fun _ => ?_) (by omega) (by simpa using hno) (by omega)
  rw [h.lv v hv, h.ok.wf.dep_const (by omega), h.ok.wf.dep_const (by omega)]
  omega

/-- what stands in a kernel with one node more -/
theorem KV.Made.at_iff {K K' : KV} {v lo hi r : Nat} (M : K.Made v lo hi r K') {s u lo' hi' : Nat} : K'.At s u lo' hi' ↔ (s = r ∧ u = v ∧ lo' = lo ∧ hi' = hi) ∨ K.At s u lo' hi' := by
  constructor
  · intro h
    obtain ⟨h2, p, hp, hpt, e1, e2, e3⟩ := h
    by_cases e : s = r
    · subst e
      rw [M.at_] at hp; cases hp
      simp at e1 e2 e3
      exact .inl ⟨rfl, by omega, e2.symm, e3.symm⟩
    · have ht : K'.A.tk s = true := ArenaV.tk_iff.2 ⟨p, hp, hpt⟩
      rw [M.tk] at ht
      simp [e] at ht
      obtain ⟨p', hp', hpt'⟩ := ArenaV.tk_iff.1 ht
      have := M.ext.nd s p' hp' hpt'
      rw [hp] at this; cases this
      exact .inr ⟨h2, p, hp', hpt, e1, e2, e3⟩
  · rintro (⟨rfl, rfl, rfl, rfl⟩ | ⟨h2, p, hp, hpt, rest⟩)
    · exact ⟨M.two, _, M.at_, rfl, rfl, rfl, rfl⟩
    · exact ⟨h2, p, M.ext.nd s p hp hpt, hpt, rest⟩

/-- two variables stand in the kernel, nothing else -/
structure TwoV (K : KV) (n m r1 r2 : Nat) : Prop where
  pl : Plain K n m
  us : K.A.used = 4
  tk : ∀ x, K.A.tk x = true ↔ x = 0 ∨ x = 1 ∨ x = r1 ∨ x = r2
  d1 : ∀ y, K.den r1 y = y 0
  d2 : ∀ y, K.den r2 y = y 1
  h1 : ∀ x, K.hold x ≤ 1

theorem new_tk (n m x : Nat) : (KV.new n m).A.tk x = true ↔ x < 2 := by
  constructor
  · intro h
    have := ArenaV.tk_lt h
    simp [KV.new, ArenaV.new] at this
    exact this
  · intro h
    obtain rfl | rfl : x = 0 ∨ x = 1 := by omega
    · rfl
    · rfl

theorem two_vars {n m r1 r2 : Nat} {c1 c2 : Int} {K1 K2 : KV} (h2 : 2 ≤ n) (hn : n ≤ 64) (hm4 : 5 ≤ m) (hm : m ≤ 1048576) (k1 : K1.Ok) (u1 : K1.Uni) (k2 : K2.Ok) (u2 : K2.Uni) (M1 : MakeR (KV.new n m) ((0 : Nat) : Int) 0 1 r1 c1 K1) (M2 : MakeR K1 ((1 : Nat) : Int) 0 1 r2 c2 K2) :
    c1 = 0 ∧ c2 = 0 ∧ TwoV K2 n m r1 r2 := by
  have P0 := plain_new (n := n) (m := m) (by omega) hn (by omega) hm
  have no0 : ∀ s u lo hi, ¬ (KV.new n m).At s u lo hi := fun s u lo hi h => by
    have := (new_tk n m s).1 h.tk
    have := h.1
    omega
  have us0 : (KV.new n m).A.used = 2 := rfl
  obtain ⟨e1, A1⟩ := P0.var (by omega) (no0 · 0 0 1) (by omega) M1
  have P1 := P0.ext A1.ext k1 u1
  have us1 := A1.us
  obtain ⟨e2, A2⟩ := P1.var (by omega) (fun s h => by
    rcases A1.at_iff.1 h with ⟨_, h, _⟩ | h
    · omega
    · exact no0 _ _ _ _ h) (by omega) M2
  have P2 := P1.ext A2.ext k2 u2
  have us2 := A2.us
  have at1 : K2.At r1 0 0 1 := A2.at_iff.2 (.inr (A1.at_iff.2 (.inl ⟨rfl, rfl, rfl, rfl⟩)))
  have at2 : K2.At r2 1 0 1 := A2.at_iff.2 (.inl ⟨rfl, rfl, rfl, rfl⟩)
  have c01 : ∀ y, K2.den 0 y = false ∧ K2.den 1 y = true := fun y => ⟨K2.den_const (by omega) y, K2.den_const (by omega) y⟩
  refine ⟨e1, e2, P2, by omega, fun x => ?_, fun y => ?_, fun y => ?_, fun x => ?_⟩
  · rw [A2.tk, A1.tk]
    simp only [Bool.or_eq_true, decide_eq_true_eq, new_tk]
    omega
  · rw [at1.den k2, (c01 y).1, (c01 y).2]; cases y 0 <;> rfl
  · rw [at2.den k2, (c01 y).1, (c01 y).2]; cases y 1 <;> rfl
  · rw [A2.hd]
    have hz : (KV.new n m).hold x = 0 := by simp [KV.hold, KV.new]
    split
    · omega
    · rw [A1.hd]; split <;> omega

theorem opB_and (a b : Bool) : opB 8 a b = (a && b) := by cases a <;> cases b <;> rfl
theorem opB_xor (a b : Bool) : opB 6 a b = (a != b) := by cases a <;> cases b <;> rfl

/-- whatever stands in a kernel that has grown by parts of the and of the two variables -/
theorem TwoV.parts {K K' : KV} {n m r1 r2 : Nat} (h : TwoV K n m r1 r2) (hn : 2 ≤ n) (e : K.Ext K') (k' : K'.Ok) (u' : K'.Uni) {t : (Nat → Bool) → Bool} (ht : ∀ y, t y = (y 0 && y 1)) (hnew : ∀ x, K'.A.tk x = true → K.A.tk x = false → K.SubN t (K'.den x)) (x : Nat) (hx : K'.A.tk x = true) :
    (x = 0 ∨ x = 1 ∨ x = r1 ∨ x = r2) ∨ ∀ y, K'.den x y = (y 0 && y 1) := by
  have wf := h.pl.ok.wf
  have can : ∀ {a b : Nat}, K'.A.tk a = true → K'.A.tk b = true → (∀ y, K'.den a y = K'.den b y) → a = b := fun ha hb h => KV.canon k'.wf k'.ord u' _ _ _ ha hb (Nat.le_refl _) h
  have t2 : K.A.tk r2 = true := (h.tk r2).2 (by simp)
  cases hk : K.A.tk x with
  | true => exact .inl ((h.tk x).1 hk)
  | false =>
    obtain ⟨l, a, hl⟩ := hnew x hx hk
    have hvr := h.pl.vr
    have l0 := h.pl.lv 0 (by omega)
    have l1 := h.pl.lv 1 (by omega)
    have m0 : ∀ y, K.mix l a y 0 = if 0 < l then a 0 else y 0 := fun y => by simp only [KV.mix, l0]; congr 1; simp; omega
    have m1 : ∀ y, K.mix l a y 1 = if 1 < l then a 1 else y 1 := fun y => by simp only [KV.mix, l1]; congr 1; simp; omega
    have hd : ∀ y, K'.den x y = ((if 0 < l then a 0 else y 0) && (if 1 < l then a 1 else y 1)) := fun y => by rw [hl, ht, m0, m1]
    by_cases h0 : 0 < l
    · left
      simp only [h0, if_true] at hd
      cases ha : a 0 with
      | false =>
        left
        refine can hx (k'.tk_const (by omega)) fun y => ?_
        rw [hd, ha, K'.den_const (by omega)]; simp
      | true =>
        by_cases h1 : 1 < l
        · simp only [h1, if_true] at hd
          cases hb : a 1 with
          | false =>
            left
            refine can hx (k'.tk_const (by omega)) fun y => ?_
            rw [hd, ha, hb, K'.den_const (by omega)]; simp
          | true =>
            right; left
            refine can hx (k'.tk_const (by omega)) fun y => ?_
            rw [hd, ha, hb, K'.den_const (by omega)]; simp
        · right; right; right
          simp only [h1, if_false] at hd
          refine can hx (e.tk t2) fun y => ?_
          rw [hd, ha, e.den wf y t2, h.d2]; simp
    · right
      intro y
      rw [hd]; simp only [h0, if_false]
      rw [if_neg (by omega)]

theorem TwoV.fits {K : KV} {n m r1 r2 : Nat} (h : TwoV K n m r1 r2) (hn : 2 ≤ n) (hm : 6 ≤ m) {t : (Nat → Bool) → Bool} (ht : ∀ y, t y = (y 0 && y 1)) : ¬ NoFit K (K.SubN t) := by
  rintro ⟨K', M, g, hk, hu, R, hus, _⟩
  have hp := (h.pl.ext R.ext hk hu).pl
  have parts := h.parts hn R.ext hk hu ht R.new
  by_cases hf : ∃ f, K'.A.tk f = true ∧ ∀ y, K'.den f y = (y 0 && y 1)
  · obtain ⟨f, tf, df⟩ := hf
    have := K'.used_le hk.wf (l := [0, 1, r1, r2, f]) fun x hx => by
      rcases parts x hx with h | h
      · simp; omega
      · have : x = f := KV.canon hk.wf hk.ord hu _ _ _ hx tf (Nat.le_refl _) fun y => by rw [h, df]
        simp [this]
    simp at this; omega
  · have := K'.used_le hk.wf (l := [0, 1, r1, r2]) fun x hx => by
      rcases parts x hx with h | h
      · simp; omega
      · exact absurd ⟨x, hx, h⟩ hf
    simp at this; omega

/-- two variables and their and stand in the kernel -/
structure ThreeN (K : KV) (n m r1 r2 f : Nat) : Prop where
  pl : Plain K n m
  us : K.A.used = 5
  tk : ∀ x, K.A.tk x = true ↔ x = 0 ∨ x = 1 ∨ x = r1 ∨ x = r2 ∨ x = f
  d1 : ∀ y, K.den r1 y = y 0
  d2 : ∀ y, K.den r2 y = y 1
  df : ∀ y, K.den f y = (y 0 && y 1)
  f2 : 2 ≤ f
  hf : K.hold f = 1

theorem TwoV.and {K K' : KV} {n m r1 r2 f : Nat} {c : Int} (h : TwoV K n m r1 r2) (hn : 2 ≤ n) (hm : 6 ≤ m) (k' : K'.Ok) (u' : K'.Uni) (O : OpR K (K.fun3 (fun x y _ => opB 8 x y) r1 r2 0) f c K') : c = 0 ∧ ThreeN K' n m r1 r2 f := by
  have ht : ∀ y, K.fun3 (fun x y _ => opB 8 x y) r1 r2 0 y = (y 0 && y 1) := fun y => by simp only [KV.fun3, opB_and, h.d1, h.d2]
  rcases O with ⟨rfl, O⟩ | ⟨_, _, _, s, _, _, hs⟩ | ⟨_, _, _, hno⟩
  · have wf := h.pl.ok.wf
    have df : ∀ y, K'.den f y = (y 0 && y 1) := fun y => by rw [O.den, ht]
    have t1 : K.A.tk r1 = true := (h.tk r1).2 (by simp)
    have t2 : K.A.tk r2 = true := (h.tk r2).2 (by simp)
    have d1 : ∀ y, K'.den r1 y = y 0 := fun y => by rw [O.ext.den wf y t1, h.d1]
    have d2 : ∀ y, K'.den r2 y = y 1 := fun y => by rw [O.ext.den wf y t2, h.d2]
    have n0 : f ≠ 0 := by
      rintro rfl
      have := df fun _ => true
      rw [K'.den_const (by omega)] at this; cases this
    have n1 : f ≠ 1 := by
      rintro rfl
      have := df fun _ => false
      rw [K'.den_const (by omega)] at this; cases this
    have nr1 : f ≠ r1 := by
      rintro rfl
      have a := df fun v => v == 0
      have b := d1 fun v => v == 0
      rw [a] at b; cases b
    have nr2 : f ≠ r2 := by
      rintro rfl
      have a := df fun v => v == 1
      have b := d2 fun v => v == 1
      rw [a] at b; cases b
    have r10 : r1 ≠ 0 := by
      rintro rfl
      have := d1 fun _ => true
      rw [K'.den_const (by omega)] at this; cases this
    have r11 : r1 ≠ 1 := by
      rintro rfl
      have := d1 fun _ => false
      rw [K'.den_const (by omega)] at this; cases this
    have r20 : r2 ≠ 0 := by
      rintro rfl
      have := d2 fun _ => true
      rw [K'.den_const (by omega)] at this; cases this
    have r21 : r2 ≠ 1 := by
      rintro rfl
      have := d2 fun _ => false
      rw [K'.den_const (by omega)] at this; cases this
    have r12 : r1 ≠ r2 := by
      rintro rfl
      have a := d1 fun v => v == 0
      have b := d2 fun v => v == 0
      rw [a] at b; cases b
    have tk : ∀ x, K'.A.tk x = true ↔ x = 0 ∨ x = 1 ∨ x = r1 ∨ x = r2 ∨ x = f := by
      intro x
      constructor
      · intro hx
        rcases h.parts hn O.ext k' u' ht O.new x hx with h | h
        · omega
        · have : x = f := KV.canon k'.wf k'.ord u' _ _ _ hx O.tk (Nat.le_refl _) fun y => by rw [h, df]
          omega
      · rintro (rfl | rfl | rfl | rfl | rfl)
        · exact k'.tk_const (by omega)
        · exact k'.tk_const (by omega)
        · exact O.ext.tk t1
        · exact O.ext.tk t2
        · exact O.tk
    have hle := K'.used_le k'.wf (l := [0, 1, r1, r2, f]) fun x hx => by
      have := (tk x).1 hx
      simp; omega
    have hge := K'.used_ge k'.wf (l := [0, 1, r1, r2, f]) (by simp; omega) fun x hx => (tk x).2 (by simpa using hx)
    have hf0 : K.hold f = 0 := by
      by_cases hp : 0 < K.hold f
      · have := (h.tk f).1 (wf.ht f hp).2
        omega
      · omega
    refine ⟨rfl, h.pl.ext O.ext k' u', by simp at hle hge; omega, tk, d1, d2, df, by omega, ?_⟩
    rw [O.hd, hf0]; simp; omega
  · have := h.h1 s; omega
  · exact (h.fits hn hm ht hno).elim

theorem ThreeN.xor {K K' : KV} {n m r1 r2 f g : Nat} {c : Int} (h : ThreeN K n m r1 r2 f) (k' : K'.Ok) (u' : K'.Uni) (O : OpR K (K.fun3 (fun x y _ => opB 6 x y) f f 0) g c K') : c = 0 ∧ g = 0 ∧ ThreeN K' n m r1 r2 f := by
  have ok := h.pl.ok
  have ht : ∀ y, K.den 0 y = K.fun3 (fun x y _ => opB 6 x y) f f 0 y := fun y => by
    rw [K.den_const (by omega)]
    simp only [KV.fun3, opB_xor]
    cases K.den f y <;> rfl
  have t0 := ok.tk_const (r := 0) (by omega)
  have hh : K.hold 0 < 65535 := by
    by_cases h0 : 0 < K.hold 0
    · have := (ok.wf.ht 0 h0).1; omega
    · omega
  obtain ⟨e1, e2, Q⟩ := O.live ok k' u' h.pl.uni t0 ht hh
  clear O
  subst e1 e2
  have O := Q
  have same := O.same ok k' u' t0 ht
  have t1 : K.A.tk r1 = true := (h.tk r1).2 (by simp)
  have t2 : K.A.tk r2 = true := (h.tk r2).2 (by simp)
  have tf : K.A.tk f = true := (h.tk f).2 (by simp)
  refine ⟨rfl, rfl, h.pl.ext O.ext k' u', ?_, fun x => (same x).trans (h.tk x), fun y => by rw [O.ext.den ok.wf y t1, h.d1], fun y => by rw [O.ext.den ok.wf y t2, h.d2], fun y => by rw [O.ext.den ok.wf y tf, h.df], h.f2, by rw [O.hd, h.hf]; simp⟩
  have a := K'.used_le k'.wf (l := K.lives) fun x hx => KV.mem_lives.2 ((same x).1 hx)
  have b := K'.used_ge k'.wf K.lives_nodup fun x hx => (same x).2 (KV.mem_lives.1 hx)
  rw [KV.lives_len ok.wf] at a b
  have := h.us
  omega

theorem ThreeN.ite {K K' : KV} {n m r1 r2 f g : Nat} {c : Int} (h : ThreeN K n m r1 r2 f) (k' : K'.Ok) (u' : K'.Uni) (O : OpR K (K.fun3 (fun x y z => if x then y else z) r1 r2 0) g c K') : c = 0 ∧ g = f ∧ K'.A.used = 5 ∧ K'.hold f = 2 := by
  have ok := h.pl.ok
  have ht : ∀ y, K.den f y = K.fun3 (fun x y z => if x then y else z) r1 r2 0 y := fun y => by
    rw [h.df]
    simp only [KV.fun3, h.d1, h.d2, K.den_const (show 0 < 2 by omega)]
    cases y 0 <;> simp
  have tf : K.A.tk f = true := (h.tk f).2 (by simp)
  obtain ⟨e1, e2, Q⟩ := O.live ok k' u' h.pl.uni tf ht (by rw [h.hf]; omega)
  clear O
  subst e1 e2
  have O := Q
  have same := O.same ok k' u' tf ht
  refine ⟨rfl, rfl, ?_, by rw [O.hd, h.hf]; simp [h.f2]⟩
  have a := K'.used_le k'.wf (l := K.lives) fun x hx => KV.mem_lives.2 ((same x).1 hx)
  have b := K'.used_ge k'.wf K.lives_nodup fun x hx => (same x).2 (KV.mem_lives.1 hx)
  rw [KV.lives_len ok.wf] at a b
  have := h.us
  omega
end Go.Proofs.YtnenhecnkidnpaaGreat


/- Two variables and their and, as data. -/
namespace Go.Proofs.YtnenhecnkidnpaaGreat

/-- two variables stand in the kernel, nothing else -/
structure TwoW (K : KV) (n m a b r1 r2 : Nat) : Prop where
  ab : a < b ∧ b < n
  pl : Plain K n m
  us : K.A.used = 4
  tk : ∀ x, K.A.tk x = true ↔ x = 0 ∨ x = 1 ∨ x = r1 ∨ x = r2
  d1 : ∀ y, K.den r1 y = y a
  d2 : ∀ y, K.den r2 y = y b
  h1 : ∀ x, K.hold x ≤ 1

/-- whatever stands in a kernel that has grown by parts of the and of the two variables -/
theorem TwoW.parts {K K' : KV} {n m a b r1 r2 : Nat} (h : TwoW K n m a b r1 r2) (e : K.Ext K') (k' : K'.Ok) (u' : K'.Uni) {t : (Nat → Bool) → Bool} (ht : ∀ y, t y = (y a && y b)) (hnew : ∀ x, K'.A.tk x = true → K.A.tk x = false → K.SubN t (K'.den x)) (x : Nat) (hx : K'.A.tk x = true) :
    (x = 0 ∨ x = 1 ∨ x = r1 ∨ x = r2) ∨ ∀ y, K'.den x y = (y a && y b) := by
  have wf := h.pl.ok.wf
  have can : ∀ {c d : Nat}, K'.A.tk c = true → K'.A.tk d = true → (∀ y, K'.den c y = K'.den d y) → c = d := fun ha hb h => KV.canon k'.wf k'.ord u' _ _ _ ha hb (Nat.le_refl _) h
  have t2 : K.A.tk r2 = true := (h.tk r2).2 (by simp)
  cases hk : K.A.tk x with
  | true => exact .inl ((h.tk x).1 hk)
  | false =>
    obtain ⟨l, z, hl⟩ := hnew x hx hk
    have hvr := h.pl.vr
    have hab := h.ab
    have l0 := h.pl.lv a (by omega)
    have l1 := h.pl.lv b (by omega)
    have m0 : ∀ y, K.mix l z y a = if a < l then z a else y a := fun y => by simp only [KV.mix, l0]; congr 1; simp; omega
    have m1 : ∀ y, K.mix l z y b = if b < l then z b else y b := fun y => by simp only [KV.mix, l1]; congr 1; simp; omega
    have hd : ∀ y, K'.den x y = ((if a < l then z a else y a) && (if b < l then z b else y b)) := fun y => by rw [hl, ht, m0, m1]
    by_cases h0 : a < l
    · left
      simp only [h0, if_true] at hd
      cases ha : z a with
      | false =>
        left
        refine can hx (k'.tk_const (by omega)) fun y => ?_
        rw [hd, ha, K'.den_const (by omega)]; simp
      | true =>
        by_cases h1 : b < l
        · simp only [h1, if_true] at hd
          cases hb : z b with
          | false =>
            left
            refine can hx (k'.tk_const (by omega)) fun y => ?_
            rw [hd, ha, hb, K'.den_const (by omega)]; simp
          | true =>
            right; left
            refine can hx (k'.tk_const (by omega)) fun y => ?_
            rw [hd, ha, hb, K'.den_const (by omega)]; simp
        · right; right; right
          simp only [h1, if_false] at hd
          refine can hx (e.tk t2) fun y => ?_
          rw [hd, ha, e.den wf y t2, h.d2]; simp
    · right
      intro y
      rw [hd]; simp only [h0, if_false]
      rw [if_neg (by omega)]

theorem TwoW.fits {K : KV} {n m a b r1 r2 : Nat} (h : TwoW K n m a b r1 r2) (hm : 6 ≤ m) {t : (Nat → Bool) → Bool} (ht : ∀ y, t y = (y a && y b)) : ¬ NoFit K (K.SubN t) := by
  rintro ⟨K', M, g, hk, hu, R, hus, _⟩
  have hp := (h.pl.ext R.ext hk hu).pl
  have parts := h.parts R.ext hk hu ht R.new
  by_cases hf : ∃ f, K'.A.tk f = true ∧ ∀ y, K'.den f y = (y a && y b)
  · obtain ⟨f, tf, df⟩ := hf
    have := K'.used_le hk.wf (l := [0, 1, r1, r2, f]) fun x hx => by
      rcases parts x hx with h | h
      · simp; omega
      · have : x = f := KV.canon hk.wf hk.ord hu _ _ _ hx tf (Nat.le_refl _) fun y => by rw [h, df]
        simp [this]
    simp at this; omega
  · have := K'.used_le hk.wf (l := [0, 1, r1, r2]) fun x hx => by
      rcases parts x hx with h | h
      · simp; omega
      · exact absurd ⟨x, hx, h⟩ hf
    simp at this; omega

/-- two variables and their and stand in the kernel -/
structure ThreeW (K : KV) (n m a b r1 r2 f : Nat) : Prop where
  pl : Plain K n m
  us : K.A.used = 5
  tk : ∀ x, K.A.tk x = true ↔ x = 0 ∨ x = 1 ∨ x = r1 ∨ x = r2 ∨ x = f
  d1 : ∀ y, K.den r1 y = y a
  d2 : ∀ y, K.den r2 y = y b
  df : ∀ y, K.den f y = (y a && y b)
  f2 : 2 ≤ f
  hf : K.hold f = 1

theorem TwoW.and {K K' : KV} {n m a b r1 r2 f : Nat} {c : Int} (h : TwoW K n m a b r1 r2) (hm : 6 ≤ m) (k' : K'.Ok) (u' : K'.Uni) (O : OpR K (K.fun3 (fun x y _ => opB 8 x y) r1 r2 0) f c K') : c = 0 ∧ ThreeW K' n m a b r1 r2 f := by
  have ht : ∀ y, K.fun3 (fun x y _ => opB 8 x y) r1 r2 0 y = (y a && y b) := fun y => by simp only [KV.fun3, opB_and, h.d1, h.d2]
  rcases O with ⟨rfl, O⟩ | ⟨_, _, _, s, _, _, hs⟩ | ⟨_, _, _, hno⟩
  · have wf := h.pl.ok.wf
    have df : ∀ y, K'.den f y = (y a && y b) := fun y => by rw [O.den, ht]
    have t1 : K.A.tk r1 = true := (h.tk r1).2 (by simp)
    have t2 : K.A.tk r2 = true := (h.tk r2).2 (by simp)
    have d1 : ∀ y, K'.den r1 y = y a := fun y => by rw [O.ext.den wf y t1, h.d1]
    have d2 : ∀ y, K'.den r2 y = y b := fun y => by rw [O.ext.den wf y t2, h.d2]
    have n0 : f ≠ 0 := by
      rintro rfl
      have := df fun _ => true
      rw [K'.den_const (by omega)] at this; cases this
    have n1 : f ≠ 1 := by
      rintro rfl
      have := df fun _ => false
      rw [K'.den_const (by omega)] at this; cases this
    have nr1 : f ≠ r1 := by
      rintro rfl
      have aa := df fun v => v == a
      have bb := d1 fun v => v == a
      rw [aa] at bb; simp at bb; have hh := h.ab; omega
    have nr2 : f ≠ r2 := by
      rintro rfl
      have aa := df fun v => v == b
      have bb := d2 fun v => v == b
      rw [aa] at bb; simp at bb; have hh := h.ab; omega
    have r10 : r1 ≠ 0 := by
      rintro rfl
      have := d1 fun _ => true
      rw [K'.den_const (by omega)] at this; cases this
    have r11 : r1 ≠ 1 := by
      rintro rfl
      have := d1 fun _ => false
      rw [K'.den_const (by omega)] at this; cases this
    have r20 : r2 ≠ 0 := by
      rintro rfl
      have := d2 fun _ => true
      rw [K'.den_const (by omega)] at this; cases this
    have r21 : r2 ≠ 1 := by
      rintro rfl
      have := d2 fun _ => false
      rw [K'.den_const (by omega)] at this; cases this
    have r12 : r1 ≠ r2 := by
      rintro rfl
      have aa := d1 fun v => v == a
      have bb := d2 fun v => v == a
      rw [aa] at bb; simp at bb; have hh := h.ab; omega
    have tk : ∀ x, K'.A.tk x = true ↔ x = 0 ∨ x = 1 ∨ x = r1 ∨ x = r2 ∨ x = f := by
      intro x
      constructor
      · intro hx
        rcases h.parts O.ext k' u' ht O.new x hx with h | h
        · omega
        · have : x = f := KV.canon k'.wf k'.ord u' _ _ _ hx O.tk (Nat.le_refl _) fun y => by rw [h, df]
          omega
      · rintro (rfl | rfl | rfl | rfl | rfl)
        · exact k'.tk_const (by omega)
        · exact k'.tk_const (by omega)
        · exact O.ext.tk t1
        · exact O.ext.tk t2
        · exact O.tk
    have hle := K'.used_le k'.wf (l := [0, 1, r1, r2, f]) fun x hx => by
      have := (tk x).1 hx
      simp; omega
    have hge := K'.used_ge k'.wf (l := [0, 1, r1, r2, f]) (by simp; omega) fun x hx => (tk x).2 (by simpa using hx)
    have hf0 : K.hold f = 0 := by
      by_cases hp : 0 < K.hold f
      · have := (h.tk f).1 (wf.ht f hp).2
        omega
      · omega
    refine ⟨rfl, h.pl.ext O.ext k' u', by simp at hle hge; omega, tk, d1, d2, df, by omega, ?_⟩
    rw [O.hd, hf0]; simp; omega
  · have := h.h1 s; omega
  · exact (h.fits hm ht hno).elim

end Go.Proofs.YtnenhecnkidnpaaGreat


/- The calls as they are named; of no kernel; the first example, walked. -/
namespace Go.Proofs.YtnenhecnkidnpaaGreat
open Go.RowKit Go.Maps Go.ChangeMaps Go.WideShapes

/-- Make's post -/
structure MakePost (b : Nat) (v : Int) (lo hi : Nat) (K : KV) (q : KPtr) (w : World) (e : Ending) (w' : World) : Prop where
  ex : ∃ (r : Nat) (code : Int) (K' : KV) (T' : List DM) (q' : KPtr), e = .returned (.tuple #[.int .u32 r, .int .i64 code]) ∧ MakeR K v lo hi r code K' ∧ KerIn w' b K' T' q' ∧ Upd (q.all b) w w' ∧ Sub (q.all b) w (q'.all b)

set_option maxRecDepth 100000 in
theorem var_live (b : Nat) (v : Int) (K : KV) (T : List DM) (q : KPtr) (w : World) (h : KerIn w b K T q) :
    Calls Tryz.prog 53 #[.pointer (some ⟨b, 0, none⟩), .int .i64 v] w fun e w' => MakePost b v 0 1 K q w e w' := by
  have HK := Lib.hid h
  clear h
  go_enter Tryz.func53, Tryz.ntmps53
  go_wp2_with fail
  refine (make_spec b v 0 1 K T q w HK.out (by omega) (by omega)).mono ?_
  rintro e w1 ⟨r, code, K', T', q', rfl, hE⟩
  have HE := Lib.hid hE
  clear hE
  go_wp2_with fail
  go_ret2
  exact ⟨r, code, K', T', q', rfl, HE.out⟩

set_option maxRecDepth 100000 in
theorem and_live (b f g : Nat) (K : KV) (T : List DM) (q : KPtr) (w : World) (h : KerIn w b K T q) (hf : K.A.tk f = true) (hg : K.A.tk g = true) :
    Calls Tryz.prog 16 #[.pointer (some ⟨b, 0, none⟩), .int .u32 f, .int .u32 g] w fun e w' => OpPost b K q (K.fun3 (fun x y _ => opB 8 x y) f g 0) w e w' := by
  have HC := Lib.hid (binary_live b 8 f g K T q w h (by omega) hf hg)
  clear h hf hg
  go_enter Tryz.func16, Tryz.ntmps16
  go_wp2_with fail
  refine HC.out.mono ?_
  rintro e w1 hE
  obtain ⟨r, code, K', T', q', rfl, hP⟩ := hE.ex
  have HE := Lib.hid hP
  clear hE hP HC
  go_wp2_with fail
  go_ret2
  exact ⟨r, code, K', T', q', rfl, HE.out⟩

set_option maxRecDepth 100000 in
theorem or_live (b f g : Nat) (K : KV) (T : List DM) (q : KPtr) (w : World) (h : KerIn w b K T q) (hf : K.A.tk f = true) (hg : K.A.tk g = true) :
    Calls Tryz.prog 17 #[.pointer (some ⟨b, 0, none⟩), .int .u32 f, .int .u32 g] w fun e w' => OpPost b K q (K.fun3 (fun x y _ => opB 14 x y) f g 0) w e w' := by
  have HC := Lib.hid (binary_live b 14 f g K T q w h (by omega) hf hg)
  clear h hf hg
  go_enter Tryz.func17, Tryz.ntmps17
  go_wp2_with fail
  refine HC.out.mono ?_
  rintro e w1 hE
  obtain ⟨r, code, K', T', q', rfl, hP⟩ := hE.ex
  have HE := Lib.hid hP
  clear hE hP HC
  go_wp2_with fail
  go_ret2
  exact ⟨r, code, K', T', q', rfl, HE.out⟩

set_option maxRecDepth 100000 in
theorem xor_live (b f g : Nat) (K : KV) (T : List DM) (q : KPtr) (w : World) (h : KerIn w b K T q) (hf : K.A.tk f = true) (hg : K.A.tk g = true) :
    Calls Tryz.prog 18 #[.pointer (some ⟨b, 0, none⟩), .int .u32 f, .int .u32 g] w fun e w' => OpPost b K q (K.fun3 (fun x y _ => opB 6 x y) f g 0) w e w' := by
  have HC := Lib.hid (binary_live b 6 f g K T q w h (by omega) hf hg)
  clear h hf hg
  go_enter Tryz.func18, Tryz.ntmps18
  go_wp2_with fail
  refine HC.out.mono ?_
  rintro e w1 hE
  obtain ⟨r, code, K', T', q', rfl, hP⟩ := hE.ex
  have HE := Lib.hid hP
  clear hE hP HC
  go_wp2_with fail
  go_ret2
  exact ⟨r, code, K', T', q', rfl, HE.out⟩

set_option maxRecDepth 100000 in
set_option maxHeartbeats 1600000 in
/-- The first example answers true. -/
theorem awake10_spec (w : World) : Calls Tryz.prog 13 #[] w fun e w' => e = .returned (.bool true) ∧ Upd [] w w' := by
  go_enter Tryz.func13, Tryz.ntmps13
  go_wp2_with fail
  refine (knew_spec 3 20 w (by omega) (by omega) (by omega) (by omega)).mono ?_
  rintro e w1 ⟨b, T, q, rfl, hk, hu, hs⟩
  have H1 := Lib.hid (And.intro hk (And.intro hu hs))
  clear hk hu hs
  go_wp2_with fail
  refine (var_live b 0 _ T q w1 H1.out.1).mono ?_
  rintro e w2 hE
  obtain ⟨r1, c1, K1, T1, q1, rfl, M1, hk, hu, hs⟩ := hE.ex
  have H2 := Lib.hid (And.intro M1 (And.intro hk (And.intro (H1.out.2.1.then hu fun x hx => (H1.out.2.2 x hx)) (sub_trans H1.out.2.2 hs H1.out.2.1.size))))
  clear hE M1 hk hu hs
  go_wp2_with fail
  refine (var_live b 1 _ T1 q1 w2 H2.out.2.1).mono ?_
  rintro e w3 hE
  obtain ⟨r2, c2, K2, T2, q2, rfl, M2, hk, hu, hs⟩ := hE.ex
  obtain ⟨rfl, rfl, hT⟩ := two_vars (by omega) (by omega) (by omega) (by omega) H2.out.2.1.ok (H2.out.2.1.ti.uni H2.out.2.1.ok.wf) hk.ok (hk.ti.uni hk.ok.wf) H2.out.1 M2
  have H3 := Lib.hid (And.intro hT (And.intro hk (And.intro (H2.out.2.2.1.then hu fun x hx => (H2.out.2.2.2 x hx)) (sub_trans H2.out.2.2.2 hs H2.out.2.2.1.size))))
  clear hE M2 hk hu hs hT
  go_wp2_with fail
  refine (and_live b r1 r2 K2 T2 q2 w3 H3.out.2.1 ((H3.out.1.tk r1).2 (by simp)) ((H3.out.1.tk r2).2 (by simp))).mono ?_
  rintro e w4 hE
  obtain ⟨f, c3, K3, T3, q3, rfl, O3, hk, hu, hs⟩ := hE.ex
  obtain ⟨rfl, hN⟩ := H3.out.1.and (by omega) (by omega) hk.ok (hk.ti.uni hk.ok.wf) O3
  have H4 := Lib.hid (And.intro hN (And.intro hk (And.intro (H3.out.2.2.1.then hu fun x hx => (H3.out.2.2.2 x hx)) (sub_trans H3.out.2.2.2 hs H3.out.2.2.1.size))))
  clear hE O3 hk hu hs hN
  go_wp2_with fail
  refine (xor_live b f f K3 T3 q3 w4 H4.out.2.1 ((H4.out.1.tk f).2 (by simp)) ((H4.out.1.tk f).2 (by simp))).mono ?_
  rintro e w5 hE
  obtain ⟨g, c4, K4, T4, q4, rfl, O4, hk, hu, hs⟩ := hE.ex
  obtain ⟨rfl, rfl, hN⟩ := H4.out.1.xor hk.ok (hk.ti.uni hk.ok.wf) O4
  have H5 := Lib.hid (And.intro hN (And.intro hk (And.intro (H4.out.2.2.1.then hu fun x hx => (H4.out.2.2.2 x hx)) (sub_trans H4.out.2.2.2 hs H4.out.2.2.1.size))))
  clear hE O4 hk hu hs hN
  go_wp2_with fail
  refine (ite_live b r1 r2 0 K4 T4 q4 w5 H5.out.2.1 ((H5.out.1.tk r1).2 (by simp)) ((H5.out.1.tk r2).2 (by simp)) ((H5.out.1.tk 0).2 (by simp))).mono ?_
  rintro e w6 hE
  obtain ⟨h, c5, K5, T5, q5, rfl, O5, hk, hu, hs⟩ := hE.ex
  obtain ⟨rfl, rfl, hus, hho⟩ := H5.out.1.ite hk.ok (hk.ti.uni hk.ok.wf) O5
  have hf2 := H5.out.1.f2
  have hf32 := hk.ok.ref_lt (hk.ok.wf.ht h (by omega)).2
  have H6 := Lib.hid (And.intro hus (And.intro hho (And.intro hk (H5.out.2.2.1.then hu fun x hx => (H5.out.2.2.2 x hx)))))
  clear hE O5 hk hu hs hus hho
  have hgt : (1 : Int) < (h : Int) := by omega
  have hhl : K5.holds.length ≤ 1048576 := by
    have h1 := H6.out.2.2.1.ok.wf.len
    have h2 := H6.out.2.2.1.ok.wf.ul
    have h3 := H6.out.2.2.1.ok.wf.ok.lp
    have h4 := H6.out.2.2.1.ok.wf.ok.pm
    omega
  go_wp2_with fail
  refine (held_spec b h K5 T5 q5 w6 H6.out.2.2.1.mem hhl (by rw [H6.out.2.1]; omega) (by omega)).mono ?_
  rintro e w7 ⟨rfl, rfl⟩
  rw [H6.out.2.1]
  go_wp2_with fail
  refine (live_count b K5 T5 q5 _ H6.out.2.2.1.mem).mono ?_
  rintro e w8 ⟨rfl, rfl⟩
  rw [H6.out.1]
  go_wp2_with fail
  go_ret
  exact ⟨rfl, H6.out.2.2.2⟩
end Go.Proofs.YtnenhecnkidnpaaGreat


/- The example of the layer, walked. -/
namespace Go.Proofs.YtnenhecnkidnpaaGreat
open Go.RowKit Go.Maps Go.ChangeMaps Go.WideShapes

/-! ### the example, as data -/
theorem Hangs.var {t : (Nat → Bool) → Bool} {a : Nat} (h : ∀ y, t y = y a) (v : Nat) : Hangs t v ↔ v = a := by
  constructor
  · rintro ⟨y, hy⟩
    rw [h, h] at hy
    by_cases e : v = a
    · exact e
    · simp [upd, Ne.symm e] at hy
  · rintro rfl
    exact ⟨fun _ => true, by rw [h, h]; simp [upd]⟩
theorem Hangs.and {t : (Nat → Bool) → Bool} {a b : Nat} (h : ∀ y, t y = (y a && y b)) (v : Nat) : Hangs t v ↔ v = a ∨ v = b := by
  constructor
  · rintro ⟨y, hy⟩
    rw [h, h] at hy
    by_cases e : v = a ∨ v = b
    · exact e
    · simp [upd, show ¬ a = v by omega, show ¬ b = v by omega] at hy
  · intro e
    refine ⟨fun _ => true, ?_⟩
    rw [h, h]
    rcases e with rfl | rfl <;> simp [upd]

/-- no node of 0 has a child of 1 -/
theorem ThreeW.free {K : KV} {m r1 r2 f : Nat} (h : ThreeW K 4 m 0 2 r1 r2 f) (hu : K.Uni) : K.FreeUV ((0 : Nat) : Int) ((1 : Nat) : Int) := by
  have hk := h.pl.ok
  have key : ∀ r, K.A.tk r = true → K.vr r ≠ 1 := by
    intro r ht e
    by_cases h2 : 2 ≤ r
    · obtain ⟨p, v, hp, hpt, hpv, hv, _⟩ := hk.wf.node_at h2 ht
      have e1 := KV.vr_at hp
      have hh := hk.hangs_of hu ht (.refl h2) hp
      rw [hpv] at e1 hh
      simp only [Int.toNat_natCast] at hh
      have hv1 : v = 1 := by omega
      subst hv1
      rcases (h.tk r).1 ht with c | c | c | c | c
      · omega
      · omega
      · subst c; have := (Hangs.var h.d1 1).1 hh; omega
      · subst c; have := (Hangs.var h.d2 1).1 hh; omega
      · subst c; have := (Hangs.and h.df 1).1 hh; omega
    · obtain ⟨p, hp, hpt⟩ := ArenaV.tk_iff.1 ht
      have e1 := KV.vr_at hp
      have := hk.wf.const_var (by omega) hp
      omega
  rintro r p h2 hp hpt ⟨_, hh⟩
  have hcl := hk.wf.cl r p h2 hp hpt
  rcases hh with hh | hh
  · exact key _ hcl.1 hh
  · exact key _ hcl.2 hh

theorem Plain.order {K : KV} {n m l : Nat} (h : Plain K n m) (hl : l < n) : K.order.getD l 0 = l := by
  have h1 := h.ok.ord.pm.oo l (by rw [h.vr]; exact hl)
  have h2 := h.lv (K.order.getD l 0) (by rw [← h.vr]; exact h1.1)
  omega

end Go.Proofs.YtnenhecnkidnpaaGreat


/- Truth tables in memory: Same, Bit, Words. -/
namespace Go.Proofs.YtnenhecnkidnpaaGreat
open Go.RowKit Go.Maps Go.ChangeMaps Go.WideShapes

/-- a table as a value -/
def tabV (t : TV) (c : Value) : Value := .agg #[.int .i64 t.n, c]

/-- a table's words in memory, apart from the blocks of Z -/
structure TIn (w : World) (Z : List Nat) (c : Value) (t : TV) : Prop where
  ok : t.Ok
  row : w.ownsRow 0 65 1 c t.ws.length (flatU t.ws)
  fr : ∀ k, c.ownBlock = some k → k ∉ Z

theorem TIn.keep {w w' : World} {Z S : List Nat} {c : Value} {t : TV} (h : TIn w Z c t) (u : Upd S w w') (hS : ∀ k, k ∈ S → k ∈ Z ∨ w.heap.size ≤ k) : TIn w' Z c t :=
  ⟨h.ok, row_keep h.row fun k hk => u.block k (h.row.lt k hk).2 fun hm => by
    rcases hS k hm with h1 | h1
    · exact h.fr k hk h1
    · have := (h.row.lt k hk).2; omega, h.fr⟩
theorem TIn.keep0 {w w' : World} {Z : List Nat} {c : Value} {t : TV} (h : TIn w Z c t) (u : Upd [] w w') : TIn w' Z c t := h.keep u (by simp)
theorem TIn.apart {w : World} {Z Z' : List Nat} {c : Value} {t : TV} (h : TIn w Z c t) (hs : Sub Z w Z') : TIn w Z' c t :=
  ⟨h.ok, h.row, fun k hk hm => by
    rcases hs k hm with h1 | h1
    · exact h.fr k hk h1
    · have := (h.row.lt k hk).2; omega⟩

theorem TV.Ok.len_le {t : TV} (h : t.Ok) : t.ws.length ≤ 1024 := by
  have e := h.len
  have h1 := h.n16
  have h2 : wordsN t.n ≤ 1024 := by
    unfold wordsN; split
    · omega
    · have : (2 : Nat) ^ (t.n - 6) ≤ 2 ^ 10 := Nat.pow_le_pow_right (by omega) (by omega)
      omega
  omega

/-- a table's value, boxed -/
theorem boxT (w : World) (x y : Value) : (w.alloc (.cells #[x, y] 72 (0, 0))).cell? ⟨w.heap.size, 0, none⟩ = some x ∧ (w.alloc (.cells #[x, y] 72 (0, 0))).cell? ⟨w.heap.size, 1, none⟩ = some y := by
  have hb := heap_alloc_new w (.cells #[x, y] 72 (0, 0))
  exact ⟨cell_at hb rfl, cell_at hb rfl⟩

set_option maxRecDepth 100000 in
set_option maxHeartbeats 800000 in
theorem same_spec (Z : List Nat) (c d : Value) (t u : TV) (w : World) (h1 : TIn w Z c t) (h2 : TIn w Z d u) :
    Calls Tryz.prog 92 #[tabV t c, tabV u d] w fun e w' => e = .returned (.bool (decide (t = u))) ∧ Upd [] w w' := by
  unfold tabV
  obtain ⟨tn, tw⟩ := t
  obtain ⟨un, uw⟩ := u
  have hl1 : tw.length ≤ 1024 := h1.ok.len_le
  have hl2 : uw.length ≤ 1024 := h2.ok.len_le
  obtain ⟨fa, ca, hca, _⟩ := row_nil_len h1.row
  obtain ⟨fb, cb, hcb, _⟩ := row_nil_len h2.row
  subst hca hcb
  have r1 : w.ownsRow 0 65 1 (.slice fa tw.length ca) tw.length (flatU tw) := h1.row
  have r2 : w.ownsRow 0 65 1 (.slice fb uw.length cb) uw.length (flatU uw) := h2.row
  clear h1 h2
  show Calls _ _ #[.agg #[.int .i64 tn, .slice fa tw.length ca], .agg #[.int .i64 un, .slice fb uw.length cb]] _ _
  generalize e1 : tw.length = n1 at r1 hl1
  generalize e2 : uw.length = n2 at r2 hl2
  have HT := Lib.hid (And.intro r1 r2)
  have HL := Lib.hid (And.intro e1 e2)
  clear r1 r2 e1 e2
  by_cases hn : tn = un
  · subst hn
    have hE : (decide ((⟨tn, tw⟩ : TV) = ⟨tn, uw⟩)) = decide (tw = uw) := by congr 1; simp
    rw [hE]
    clear hE
    have HU2 := Lib.hid (((Upd.refl [] w).alloc (.cells #[.int .i64 tn, .slice fa n1 ca] 72 (0, 0))).alloc (.cells #[.int .i64 tn, .slice fb n2 cb] 72 (0, 0)))
    obtain ⟨a0, a1⟩ := boxT w (.int .i64 tn) (.slice fa n1 ca)
    obtain ⟨b0, b1⟩ := boxT (w.alloc (.cells #[.int .i64 tn, .slice fa n1 ca] 72 (0, 0))) (.int .i64 tn) (.slice fb n2 cb)
    rw [World.size_alloc] at b0 b1
    have q0 : ((w.alloc (.cells #[.int .i64 tn, .slice fa n1 ca] 72 (0, 0))).alloc (.cells #[.int .i64 tn, .slice fb n2 cb] 72 (0, 0))).cell? ⟨w.heap.size, 0, none⟩ = some (.int .i64 tn) := (((Upd.refl [] _).alloc _).cell (World.block_lt_of_cell? _ _ a0) (by simp)).trans a0
    have q1 : ((w.alloc (.cells #[.int .i64 tn, .slice fa n1 ca] 72 (0, 0))).alloc (.cells #[.int .i64 tn, .slice fb n2 cb] 72 (0, 0))).cell? ⟨w.heap.size, 1, none⟩ = some (.slice fa n1 ca) := (((Upd.refl [] _).alloc _).cell (World.block_lt_of_cell? _ _ a1) (by simp)).trans a1
    clear a0 a1
    by_cases hl : n1 = n2
    · subst hl
      go_enter Tryz.func92, Tryz.ntmps92
      go_wp2_with fail
      go_loopg [5] n1 (fun g s5 wr => ∃ i : Nat, n1 - i = g ∧ i ≤ n1 ∧ s5 = .int .i64 i ∧ tw.take i = uw.take i ∧ Upd [] ((w.alloc (.cells #[.int .i64 tn, .slice fa n1 ca] 72 (0, 0))).alloc (.cells #[.int .i64 tn, .slice fb n1 cb] 72 (0, 0))) wr)
      case atStart => exact ⟨0, by omega, by omega, rfl, rfl, Upd.refl _ _⟩
      case round =>
        obtain ⟨i, rfl, hi, rfl, ht, hU⟩ := hrel
        have p1 := (hU.cell (World.block_lt_of_cell? _ _ q1) (by simp)).trans q1
        have p2 := (hU.cell (World.block_lt_of_cell? _ _ b1) (by simp)).trans b1
        by_cases hlt : i < n1
        · obtain ⟨x, hx⟩ : ∃ x, tw[i]? = some x := ⟨_, List.getElem?_eq_getElem (by rw [HL.out.1]; exact hlt)⟩
          obtain ⟨y, hy⟩ : ∃ y, uw[i]? = some y := ⟨_, List.getElem?_eq_getElem (by rw [HL.out.2]; exact hlt)⟩
          obtain ⟨ga, rfl⟩ := row_some HT.out.1 (by omega)
          obtain ⟨gb, rfl⟩ := row_some HT.out.2 (by omega)
          have r1 := row_keep HT.out.1 fun k hk => (HU2.out.trans hU).block k (HT.out.1.lt k hk).2 (by simp)
          have r2 := row_keep HT.out.2 fun k hk => (HU2.out.trans hU).block k (HT.out.2.lt k hk).2 (by simp)
          have c1 := row_cell r1 (j := i) (u := .int .u64 x) (by simp [flatU, hx])
          have c2 := row_cell r2 (j := i) (u := .int .u64 y) (by simp [flatU, hy])
          have hil : (i : Int) < (n1 : Int) := by omega
          clear q0 q1 b0 b1 r1 r2
          by_cases hxy : x = y
          · have hb1 : (x == y) = true := by simpa using hxy
            have HE : Hid (tw.take (i + 1) = uw.take (i + 1) ∧ Upd [] _ wr) := ⟨by rw [List.take_add_one, List.take_add_one, ht, hx, hy, hxy], hU⟩
            clear ht hU hx hy
            go_wp2_with fail
            go_region
            go_wp2_with fail
            go_roundg (n1 - (i + 1))
            case measure => omega
            case rel => exact ⟨i + 1, rfl, by omega, by simp, HE.out.1, HE.out.2.drew⟩
          · have hb1 : (x == y) = false := by simpa using hxy
            have HE : Hid (¬ (tw = uw) ∧ Upd [] _ wr) := ⟨fun e => hxy (by rw [e, hy] at hx; exact (Option.some.inj hx).symm), HU2.out.trans hU⟩
            clear ht hU hx hy
            go_wp2_with fail
            go_region
            go_wp2_with fail
            go_ret
            exact ⟨by rw [decide_eq_false HE.out.1]; rfl, HE.out.2.drew⟩
        · obtain rfl : i = n1 := by omega
          have hil : ¬ ((i : Int) < (i : Int)) := by omega
          have HE : Hid ((tw = uw) ∧ Upd [] w wr) := ⟨by rw [List.take_of_length_le (by rw [HL.out.1]; omega), List.take_of_length_le (by rw [HL.out.2]; omega)] at ht; exact ht, HU2.out.trans hU⟩
          clear ht hU q0 q1 b0 b1
          go_wp2_with fail
          go_ret
          exact ⟨by rw [decide_eq_true HE.out.1]; rfl, HE.out.2⟩
    · have hl3 : ((n1 : Int) == (n2 : Int)) = false := by rw [beq_eq_false_iff_ne]; omega
      have hl4 : ¬ ((n1 : Int) = (n2 : Int)) := by omega
      have HE : Hid (¬ (tw = uw)) := fun e => hl (by have := HL.out; rw [e] at this; omega)
      go_enter Tryz.func92, Tryz.ntmps92
      go_wp2_with fail
      go_ret
      exact ⟨by rw [decide_eq_false HE.out]; rfl, HU2.out⟩
  · have hn1 : ((tn : Int) == (un : Int)) = false := by rw [beq_eq_false_iff_ne]; omega
    have hn4 : ¬ ((tn : Int) = (un : Int)) := by omega
    have hE : decide ((⟨tn, tw⟩ : TV) = ⟨un, uw⟩) = false := decide_eq_false fun e => hn (by injection e)
    rw [hE]
    clear hE
    have HU2 := Lib.hid (((Upd.refl [] w).alloc (.cells #[.int .i64 tn, .slice fa n1 ca] 72 (0, 0))).alloc (.cells #[.int .i64 un, .slice fb n2 cb] 72 (0, 0)))
    obtain ⟨a0, a1⟩ := boxT w (.int .i64 tn) (.slice fa n1 ca)
    obtain ⟨b0, b1⟩ := boxT (w.alloc (.cells #[.int .i64 tn, .slice fa n1 ca] 72 (0, 0))) (.int .i64 un) (.slice fb n2 cb)
    rw [World.size_alloc] at b0 b1
    have q0 : ((w.alloc (.cells #[.int .i64 tn, .slice fa n1 ca] 72 (0, 0))).alloc (.cells #[.int .i64 un, .slice fb n2 cb] 72 (0, 0))).cell? ⟨w.heap.size, 0, none⟩ = some (.int .i64 tn) := (((Upd.refl [] _).alloc _).cell (World.block_lt_of_cell? _ _ a0) (by simp)).trans a0
    clear a0 a1
    go_enter Tryz.func92, Tryz.ntmps92
    go_wp2_with fail
    go_ret
    exact ⟨rfl, HU2.out⟩

/-- a bit, as the code reckons it -/
theorem bit_mod {x : Int} (hx : U64 x) (v : Nat) : (x / 2 ^ v % 2 == 1) = nb x v := by
  obtain ⟨n, rfl⟩ : ∃ n : Nat, x = (n : Int) := ⟨x.toNat, by unfold U64 at hx; omega⟩
  have e : ((n : Int) / 2 ^ v % 2) = ((n / 2 ^ v % 2 : Nat) : Int) := by push_cast; rfl
  rw [e, nb_cast, Nat.testBit_eq_decide_div_mod_eq, Bool.eq_iff_iff, beq_iff_eq, decide_eq_true_eq]
  omega

theorem bit_tmod {x : Int} (hx : U64 x) (v : Nat) : ((x / 2 ^ v).tmod 2 == 1) = nb x v := by
  rw [← bit_mod hx, Int.tmod_eq_emod_of_nonneg (Int.ediv_nonneg hx.1 (Int.le_of_lt (Int.pow_pos (by omega))))]

set_option maxRecDepth 100000 in
set_option maxHeartbeats 800000 in
theorem tbit_spec (Z : List Nat) (c : Value) (t : TV) (x : Nat) (w : World) (h : TIn w Z c t) (hx : x < 2 ^ t.n) :
    Calls Tryz.prog 144 #[tabV t c, .int .i64 x] w fun e w' => e = .returned (.bool (t.bit x)) ∧ Upd [] w w' := by
  unfold tabV
  have hd := div64_lt hx
  obtain ⟨w1, w2, w3⟩ := h.ok.word hd
  have hlen := h.ok.len
  have hll := h.ok.len_le
  obtain ⟨fa, ca, hca, _⟩ := row_nil_len h.row
  subst hca
  obtain ⟨ga, rfl⟩ := row_some h.row (by have := wordsN_pos t.n; omega)
  have HU := Lib.hid ((Upd.refl [] w).alloc (.cells #[.int .i64 t.n, .slice (some ⟨ga, 0, none⟩) t.ws.length ca] 72 (0, 0)))
  obtain ⟨a0, a1⟩ := boxT w (.int .i64 t.n) (.slice (some ⟨ga, 0, none⟩) t.ws.length ca)
  have r1 := row_keep h.row fun k hk => HU.out.block k (h.row.lt k hk).2 (by simp)
  have c1 := row_cell r1 (j := x / 64) (u := .int .u64 (t.ws.getD (x / 64) 0)) (by rw [flatU, List.getElem?_map, w3]; rfl)
  have HB : Hid (((t.ws.getD (x / 64) 0 / 2 ^ (x % 64)).tmod 2 == 1) = t.bit x) := bit_tmod w1 (x % 64)
  generalize t.ws.getD (x / 64) 0 = W at c1 HB
  have hx16 : x < 65536 := Nat.lt_of_lt_of_le hx (by have : (2 : Nat) ^ t.n ≤ 2 ^ 16 := Nat.pow_le_pow_right (by omega) h.ok.n16; omega)
  have hq2 : (x : Int).tdiv 64 = ((x / 64 : Nat) : Int) := by rw [Int.tdiv_eq_ediv_of_nonneg (by omega)]; omega
  have hr2 : (x : Int).tmod 64 = ((x % 64 : Nat) : Int) := by rw [Int.tmod_eq_emod_of_nonneg (by omega)]; omega
  have hil : ((x / 64 : Nat) : Int) < (t.ws.length : Int) := by omega
  have hrl : ((x % 64 : Nat) : Int) < 64 := by omega
  have hrl2 : x % 64 < 64 := by omega
  generalize x / 64 = xq at c1 hq2 hil
  generalize x % 64 = xr at HB hr2 hrl hrl2
  clear h r1 w1 w2 w3 hd hx hlen
  generalize t.ws.length = tl at *
  go_enter Tryz.func144, Tryz.ntmps144
  go_wp2_with fail
  go_ret
  exact ⟨by rw [← HB.out]; rfl, HU.out⟩

set_option maxRecDepth 100000 in
set_option maxHeartbeats 800000 in
theorem words_spec (n : Nat) (w : World) (hn : n ≤ 16) : Calls Tryz.prog 170 #[.int .i64 n] w fun e w' => e = .returned (.int .i64 (wordsN n : Nat)) ∧ w' = w := by
  by_cases h6 : n ≤ 6
  · have hd : decide ((n : Int) ≤ 6) = true := by simp; omega
    have HW : Hid (wordsN n = 1) := by
      show wordsN n = 1
      unfold wordsN; rw [if_pos h6]
    go_enter Tryz.func170, Tryz.ntmps170
    go_wp2_with fail
    go_ret
    exact ⟨by rw [HW.out]; rfl, rfl⟩
  · have hd : decide ((n : Int) ≤ 6) = false := by simp; omega
    obtain ⟨m, rfl⟩ : ∃ m, n = m + 6 := ⟨n - 6, by omega⟩
    have hm : m ≤ 10 := by omega
    have hsub : IntKind.i64.wrap (((m + 6 : Nat) : Int) - 6) = (m : Int) := by rw [IntWalk.i64_in _ (by omega)]; omega
    have hm64 : (m : Int) < 64 := by omega
    have HW : Hid (wrap64 (2 ^ m) = (wordsN (m + 6) : Nat)) := by
      show _ = _
      have h1 : (2 : Nat) ^ m ≤ 2 ^ 10 := Nat.pow_le_pow_right (by omega) hm
      have h2 : ((2 : Int) ^ m) = ((2 ^ m : Nat) : Int) := by push_cast; rfl
      have h3 : wordsN (m + 6) = 2 ^ m := by
        unfold wordsN
        split
        · obtain rfl : m = 0 := by omega
          rfl
        · rw [Nat.add_sub_cancel]
      rw [h3, h2]
      generalize (2 : Nat) ^ m = z at h1
      unfold wrap64; omega
    go_enter Tryz.func170, Tryz.ntmps170
    go_wp2_with fail
    go_ret
    exact ⟨by rw [← HW.out]; rfl, rfl⟩
end Go.Proofs.YtnenhecnkidnpaaGreat

