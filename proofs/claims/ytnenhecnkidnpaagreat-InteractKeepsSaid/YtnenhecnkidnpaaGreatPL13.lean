/- Bits of words, and supports, as data. -/
import Derived.Test.YtnenhecnkidnpaaGreatPL12
import Derived.Test.YtnenhecnkidnpaaGreatPL11
namespace Go.Proofs.YtnenhecnkidnpaaGreat
open Go.RowKit Go.Maps Go.ChangeMaps Go.WideShapes

/-! ### bits of words -/
def nb (x : Int) (i : Nat) : Bool := x.toNat.testBit i

theorem toNat_bv {x : Int} (h : U64 x) : (BitVec.ofInt 64 x).toNat = x.toNat := by
  unfold U64 at h
  rw [BitVec.toNat_ofInt]
  have : x % (2 ^ 64 : Nat) = x := by omega
  rw [this]
theorem nb_bv {x : Int} (h : U64 x) (i : Nat) : nb x i = (BitVec.ofInt 64 x).getLsbD i := by
  unfold nb; rw [← toNat_bv h, BitVec.testBit_toNat]
theorem nb_of_bv (B : BitVec 64) (i : Nat) : nb ((B.toNat : Int) % 18446744073709551616) i = B.getLsbD i := by
  have h := B.isLt
  have : ((B.toNat : Int) % 18446744073709551616).toNat = B.toNat := by omega
  unfold nb; rw [this, BitVec.testBit_toNat]

theorem nb_or {x y : Int} (hx : U64 x) (hy : U64 y) (i : Nat) : nb (bits BinOp.or IntKind.u64 x y) i = (nb x i || nb y i) := by
  rw [nb_bv hx, nb_bv hy, ← BitVec.getLsbD_or]
  exact nb_of_bv (BitVec.ofInt 64 x ||| BitVec.ofInt 64 y) i
theorem nb_and {x y : Int} (hx : U64 x) (hy : U64 y) (i : Nat) : nb (bits BinOp.and IntKind.u64 x y) i = (nb x i && nb y i) := by
  rw [nb_bv hx, nb_bv hy, ← BitVec.getLsbD_and]
  exact nb_of_bv (BitVec.ofInt 64 x &&& BitVec.ofInt 64 y) i
theorem nb_andNot {x y : Int} (hx : U64 x) (hy : U64 y) {i : Nat} (hi : i < 64) : nb (bits BinOp.andNot IntKind.u64 x y) i = (nb x i && !nb y i) := by
  rw [nb_bv hx, nb_bv hy]
  have e : nb (bits BinOp.andNot IntKind.u64 x y) i = (BitVec.ofInt 64 x &&& ~~~BitVec.ofInt 64 y).getLsbD i := nb_of_bv _ i
  rw [e, BitVec.getLsbD_and, BitVec.getLsbD_not, decide_eq_true hi, Bool.true_and]
theorem nb_pow {n : Nat} (hn : n < 64) (i : Nat) : nb (IntKind.u64.wrap (2 ^ n)) i = decide (n = i) := by
  have e : IntKind.u64.wrap ((2 : Int) ^ n) = (2 : Int) ^ n % 18446744073709551616 := rfl
  have h1 : (2 : Nat) ^ n < 2 ^ 64 := Nat.pow_lt_pow_right (by omega) hn
  have h2 : ((2 : Int) ^ n) = ((2 ^ n : Nat) : Int) := by push_cast; rfl
  have h3 : ((2 : Int) ^ n % 18446744073709551616).toNat = 2 ^ n := by rw [h2]; generalize (2 : Nat) ^ n = m at h1 ⊢; omega
  rw [e]; unfold nb; rw [h3, Nat.testBit_two_pow]
theorem nb_zero (i : Nat) : nb 0 i = false := by simp [nb]
theorem nb_ext {x y : Int} (hx : U64 x) (hy : U64 y) (h : ∀ i, i < 64 → nb x i = nb y i) : x = y := by
  have : x.toNat = y.toNat := by
    apply Nat.eq_of_testBit_eq
    intro i
    by_cases hi : i < 64
    · exact h i hi
    · have l : ∀ z : Int, U64 z → z.toNat.testBit i = false := fun z hz => by
        apply Nat.testBit_lt_two_pow
        have h1 : (2 : Nat) ^ 64 ≤ 2 ^ i := Nat.pow_le_pow_right (by omega) (by omega)
        unfold U64 at hz; omega
      rw [l x hx, l y hy]
  unfold U64 at hx hy; omega

theorem bitT_nb {x : Int} (hx : U64 x) (v : Nat) : bitT x v = nb x v := by
  obtain ⟨n, rfl⟩ : ∃ n : Nat, x = (n : Int) := ⟨x.toNat, by unfold U64 at hx; omega⟩
  have hn : n < 18446744073709551616 := by unfold U64 at hx; omega
  have e : ((n : Int) / 2 ^ v) = ((n / 2 ^ v : Nat) : Int) := by push_cast; rfl
  have hu : U64 ((n : Int) / 2 ^ v) := by
    rw [e]; have := Nat.div_le_self n (2 ^ v); generalize n / 2 ^ v = m at this ⊢; unfold U64; omega
  have h1 : U64 1 := by unfold U64; omega
  have hbit : nb ((n : Int) / 2 ^ v) 0 = nb (n : Int) v := by
    rw [e]; unfold nb
    simp only [Int.toNat_natCast]
    rw [Nat.testBit_div_two_pow, Nat.zero_add]
  have h2 : ∀ i, nb (bits BinOp.and IntKind.u64 ((n : Int) / 2 ^ v) 1) i = (nb ((n : Int) / 2 ^ v) i && decide (i = 0)) := fun i => by
    rw [nb_and hu h1]
    congr 1
    have : nb 1 i = decide (0 = i) := nb_pow (n := 0) (by omega) i
    rw [this]; by_cases h : i = 0 <;> simp [h]; omega
  have hW := bits_u64 BinOp.and ((n : Int) / 2 ^ v) 1
  unfold bitT
  cases hb : nb (n : Int) v with
  | true =>
    have : bits BinOp.and IntKind.u64 ((n : Int) / 2 ^ v) 1 = 1 := nb_ext hW h1 fun i _ => by
      have e1 : nb 1 i = decide (0 = i) := nb_pow (n := 0) (by omega) i
      rw [h2, e1]
      by_cases h : i = 0
      · subst h; rw [hbit, hb]; rfl
      · simp [h]; omega
    rw [this]; rfl
  | false =>
    have : bits BinOp.and IntKind.u64 ((n : Int) / 2 ^ v) 1 = 0 := nb_ext hW (by unfold U64; omega) fun i _ => by
      rw [h2, nb_zero]
      by_cases h : i = 0
      · subst h; rw [hbit, hb]; rfl
      · simp [h]
    rw [this]; rfl

/-! ### supports -/
theorem WalkL.one {K : KV} {r : Nat} {N : List Nat} (h : WalkL K [] [r] N) : WalkN K [] r N := by
  cases h with
  | cons h t => cases t; simpa using h

theorem KV.Under.node {K : KV} {P : List Nat} (hw : K.Wf P) {r x : Nat} (ht : K.A.tk r = true) (h : K.Under r x) : 2 ≤ x ∧ K.A.tk x = true := by
  induction h with
  | refl h => exact ⟨h, ht⟩
  | lo _ hp h2 ih =>
    obtain ⟨p', hp', hpt'⟩ := ArenaV.tk_iff.1 ih.2
    rw [hp] at hp'; cases hp'
    exact ⟨h2, (hw.cl _ _ ih.1 hp hpt').1⟩
  | hi _ hp h2 ih =>
    obtain ⟨p', hp', hpt'⟩ := ArenaV.tk_iff.1 ih.2
    rw [hp] at hp'; cases hp'
    exact ⟨h2, (hw.cl _ _ ih.1 hp hpt').2⟩

theorem WalkN.mem {K : KV} {r x : Nat} {N : List Nat} (h : WalkN K [] r N) : x ∈ N ↔ K.Under r x := by
  refine ⟨h.under x, fun hu => ?_⟩
  induction hu with
  | refl h2 => simpa using h.has h2
  | lo _ hp h2 ih =>
    rcases (h.kids _ _ ih hp).1 with h3 | h3
    · omega
    · simpa using h3
  | hi _ hp h2 ih =>
    rcases (h.kids _ _ ih hp).2 with h3 | h3
    · omega
    · simpa using h3

/-- the child of a node, out of the node's function -/
theorem KV.Ok.kid_den {K : KV} (hk : K.Ok) {x : Nat} {p : PlaceV} (h2 : 2 ≤ x) (hp : K.A.list[x]? = some p) (hpt : p.taken = true) (b : Bool) (y : Nat → Bool) : K.den (if b then p.hi else p.lo) y = K.den x (upd y p.var.toNat b) := by
  cases b with
  | true => exact (KV.den_hi hk.wf hk.ord h2 hp hpt y).symm
  | false => exact (KV.den_lo hk.wf hk.ord h2 hp hpt y).symm

theorem KV.Ok.mix_kid {K : KV} (hk : K.Ok) {r x : Nat} {p : PlaceV} (h2 : 2 ≤ x) (hp : K.A.list[x]? = some p) (hpt : p.taken = true) (b : Bool) {a : Nat → Bool} (ha : ∀ y, K.den x y = K.den r (K.mix (K.dep x) a y)) :
    ∃ a', ∀ y, K.den (if b then p.hi else p.lo) y = K.den r (K.mix (K.dep (if b then p.hi else p.lo)) a' y) := by
  have hvr := hk.wf.vr x p h2 hp hpt
  have hb := hk.ord.below hk.wf h2 hp hpt
  have hcl := hk.wf.cl x p h2 hp hpt
  have hdx : K.dep x = K.lev p.var.toNat := by simp [KV.dep, hp, hvr.1]
  have hvl : p.var.toNat < K.vars := by omega
  generalize hc : (if b then p.hi else p.lo) = c
  have htc : K.A.tk c = true := by
    subst hc; cases b
    · exact hcl.1
    · exact hcl.2
  have hdc : K.dep x < K.dep c := by
    subst hc; cases b
    · exact hb.1
    · exact hb.2
  refine ⟨upd a p.var.toNat b, fun y => ?_⟩
  have e1 : K.den c y = K.den c (K.mix (K.dep c) (upd a p.var.toNat b) y) := KV.den_same hk.wf hk.ord _ c _ _ htc (Nat.le_refl _) fun u hu hd => by
    simp only [KV.mix]; rw [if_neg (by omega)]
  rw [e1, ← hc, hk.kid_den h2 hp hpt, ha, hc]
  congr 1
  funext u
  simp only [KV.mix, upd]
  by_cases hu : u < K.vars
  · by_cases h3 : u = p.var.toNat
    · subst h3
      simp only [hu, true_and, if_true]
      rw [if_neg (by omega), if_pos (by omega)]
    · simp only [hu, true_and, h3, if_false]
      by_cases h4 : K.lev u < K.dep x
      · rw [if_pos h4, if_pos (by omega)]
      · rw [if_neg h4]
  · have h3 : u ≠ p.var.toNat := by omega
    simp [hu, h3]

theorem KV.Ok.mix_under {K : KV} (hk : K.Ok) {r x : Nat} (ht : K.A.tk r = true) (h : K.Under r x) : ∃ a, ∀ y, K.den x y = K.den r (K.mix (K.dep x) a y) := by
  induction h with
  | refl h => exact ⟨fun _ => false, fun y => KV.den_same hk.wf hk.ord _ r _ _ ht (Nat.le_refl _) fun u hu hd => by
      simp only [KV.mix]; rw [if_neg (by omega)]⟩
  | lo h hp h2 ih =>
    obtain ⟨a, ha⟩ := ih
    have hn := h.node hk.wf ht
    obtain ⟨p', hp', hpt'⟩ := ArenaV.tk_iff.1 hn.2
    rw [hp] at hp'; cases hp'
    exact hk.mix_kid hn.1 hp hpt' false ha
  | hi h hp h2 ih =>
    obtain ⟨a, ha⟩ := ih
    have hn := h.node hk.wf ht
    obtain ⟨p', hp', hpt'⟩ := ArenaV.tk_iff.1 hn.2
    rw [hp] at hp'; cases hp'
    exact hk.mix_kid hn.1 hp hpt' true ha

/-- a function depends on a variable -/
def Hangs (t : (Nat → Bool) → Bool) (v : Nat) : Prop := ∃ y, t (upd y v true) ≠ t (upd y v false)

theorem KV.Ok.hangs_of {K : KV} (hk : K.Ok) (hu : K.Uni) {r x : Nat} {p : PlaceV} (ht : K.A.tk r = true) (h : K.Under r x) (hp : K.A.list[x]? = some p) : Hangs (K.den r) p.var.toNat := by
  have hn := h.node hk.wf ht
  obtain ⟨p', hp', hpt⟩ := ArenaV.tk_iff.1 hn.2
  rw [hp] at hp'; cases hp'
  have hvr := hk.wf.vr x p hn.1 hp hpt
  have hcl := hk.wf.cl x p hn.1 hp hpt
  have hdx : K.dep x = K.lev p.var.toNat := by simp [KV.dep, hp, hvr.1]
  obtain ⟨a, ha⟩ := hk.mix_under ht h
  have hne : ∃ y, K.den p.hi y ≠ K.den p.lo y := by
    by_cases hh : ∃ y, K.den p.hi y ≠ K.den p.lo y
    · exact hh
    · exfalso
      refine hk.ord.ne x p hn.1 hp hpt (KV.canon hk.wf hk.ord hu _ _ _ hcl.1 hcl.2 (Nat.le_refl _) fun y => ?_)
      by_cases h : K.den p.lo y = K.den p.hi y
      · exact h
      · exact absurd ⟨y, fun e => h e.symm⟩ hh
  obtain ⟨y, hy⟩ := hne
  refine ⟨K.mix (K.dep x) a y, ?_⟩
  have e : ∀ b, upd (K.mix (K.dep x) a y) p.var.toNat b = K.mix (K.dep x) a (upd y p.var.toNat b) := fun b => by
    funext u
    simp only [KV.mix, upd]
    by_cases h3 : u = p.var.toNat
    · subst h3; rw [if_pos rfl, if_neg (by omega), if_pos rfl]
    · simp [h3]
  rw [e, e, ← ha, ← ha]
  have e1 := hk.kid_den hn.1 hp hpt true y
  have e2 := hk.kid_den hn.1 hp hpt false y
  simp only [if_true] at e1
  simp only [Bool.false_eq_true, if_false] at e2
  rw [← e1, ← e2]; exact hy

theorem KV.Ok.hangs_not {K : KV} (hk : K.Ok) {v : Nat} : ∀ (n r : Nat), K.vars - K.dep r ≤ n → K.A.tk r = true → (∀ x p, K.Under r x → K.A.list[x]? = some p → p.var.toNat ≠ v) → ∀ y b, K.den r (upd y v b) = K.den r y
  | n, r, hn, ht, hx, y, b => by
    by_cases h2 : 2 ≤ r
    · obtain ⟨p, u, hp, hpt, hpv, hu, h3, h4, hd⟩ := hk.wf.node_at h2 ht
      have hb := hk.ord.below hk.wf h2 hp hpt
      have hlt := hk.wf.dep_lt hk.ord h2 ht
      have hv := hx r p (.refl h2) hp
      match n with
      | 0 => omega
      | n + 1 =>
        have ih : ∀ c, K.A.tk c = true → K.dep r < K.dep c → (2 ≤ c → K.Under r c) → K.den c (upd y v b) = K.den c y := fun c hc hd hu => by
          by_cases hc2 : 2 ≤ c
          · exact KV.Ok.hangs_not hk n c (by omega) hc (fun x q hx' hq => hx x q ((hu hc2).trans hx') hq) y b
          · rw [K.den_const (by omega), K.den_const (by omega)]
        rw [KV.den_node hk.wf hk.ord h2 hp hpt, KV.den_node hk.wf hk.ord h2 hp hpt, upd_ne _ _ hv, ih p.hi h4 hb.2 (fun h => .hi (.refl h2) hp h), ih p.lo h3 hb.1 (fun h => .lo (.refl h2) hp h)]
    · rw [K.den_const (by omega), K.den_const (by omega)]

theorem KV.Wf.vof_lt {K : KV} {P : List Nat} (h : K.Wf P) {x : Nat} (h2 : 2 ≤ x) (ht : K.A.tk x = true) : K.vof x < K.vars := by
  obtain ⟨p, v, hp, _, hv, hl, _⟩ := h.node_at h2 ht
  simp [KV.vof, hp]; omega

theorem sup_fold' (K : KV) (N : List Nat) (hv : ∀ x, x ∈ N → K.vof x < 64) (s : Int) (hs : U64 s) : U64 (N.foldl (fun s x => supStep s (K.vof x)) s) ∧ ∀ i, nb (N.foldl (fun s x => supStep s (K.vof x)) s) i = (nb s i || decide (∃ x, x ∈ N ∧ K.vof x = i)) := by
  induction N generalizing s with
  | nil => exact ⟨hs, fun i => by simp⟩
  | cons a N ih =>
    obtain ⟨h1, h2⟩ := ih (fun x hx => hv x (by simp [hx])) (supStep s (K.vof a)) (bits_u64 _ _ _)
    refine ⟨h1, fun i => ?_⟩
    rw [List.foldl_cons, h2]
    unfold supStep
    rw [nb_or hs (wrap_u64 _), nb_pow (hv a (by simp)), Bool.or_assoc]
    congr 1
    rw [Bool.eq_iff_iff]
    simp

/-- the support is the set of the variables on which a function depends -/
theorem SupIs.bits {K : KV} {r : Nat} {s : Int} (hk : K.Ok) (hu : K.Uni) (ht : K.A.tk r = true) (h : SupIs K r s) : U64 s ∧ ∀ v, nb s v = true ↔ Hangs (K.den r) v := by
  obtain ⟨N, hN, rfl⟩ := h
  have hN := hN.one
  have hv : ∀ x, x ∈ N → K.vof x < 64 := fun x hx => by
    have := hN.two x hx
    have := hk.wf.vof_lt this.1 this.2
    have := hk.wf.vs
    omega
  obtain ⟨h1, h2⟩ := sup_fold' K N hv 0 (by unfold U64; omega)
  refine ⟨h1, fun v => ?_⟩
  rw [h2, nb_zero, Bool.false_or, decide_eq_true_eq]
  constructor
  · rintro ⟨x, hx, rfl⟩
    have ht' := hN.two x hx
    obtain ⟨p, hp, hpt⟩ := ArenaV.tk_iff.1 ht'.2
    have := hk.hangs_of hu ht (hN.under x hx) hp
    simpa [KV.vof, hp] using this
  · intro hh
    by_cases he : ∃ x, x ∈ N ∧ K.vof x = v
    · exact he
    · exfalso
      obtain ⟨y, hy⟩ := hh
      have key := hk.hangs_not (v := v) _ r (Nat.le_refl _) ht (fun x p hx hp hv => he ⟨x, hN.mem.2 hx, by simp [KV.vof, hp, hv]⟩)
      exact hy (by rw [key, key])
end Go.Proofs.YtnenhecnkidnpaaGreat


/- Truth tables, as data; no program is named. -/
namespace Go.Proofs.YtnenhecnkidnpaaGreat

/-- a table: how many variables, and its words -/
structure TV where
  n : Nat
  ws : List Int
deriving DecidableEq

def wordsN (n : Nat) : Nat := if n ≤ 6 then 1 else 2 ^ (n - 6)

structure TV.Ok (t : TV) : Prop where
  n16 : t.n ≤ 16
  len : t.ws.length = wordsN t.n
  u : ∀ x, x ∈ t.ws → U64 x
  low : t.n < 6 → ∀ x, x ∈ t.ws → ∀ i, 2 ^ t.n ≤ i → nb x i = false

/-- the value at a place -/
def TV.bit (t : TV) (x : Nat) : Bool := nb (t.ws.getD (x / 64) 0) (x % 64)

theorem nb_high {x : Int} (h : U64 x) {i : Nat} (hi : 64 ≤ i) : nb x i = false := by
  apply Nat.testBit_lt_two_pow
  have h1 : (2 : Nat) ^ 64 ≤ 2 ^ i := Nat.pow_le_pow_right (by omega) hi
  unfold U64 at h; omega

theorem wordsN_pos (n : Nat) : 0 < wordsN n := by unfold wordsN; split; · omega
                                                  · exact Nat.two_pow_pos _
theorem wordsN_mul {n : Nat} (h : 6 ≤ n) : wordsN n * 64 = 2 ^ n := by
  unfold wordsN
  split
  · obtain rfl : n = 6 := by omega
    rfl
  · have : n = (n - 6) + 6 := by omega
    rw [this, Nat.pow_add]; simp

theorem TV.Ok.word {t : TV} (h : t.Ok) {i : Nat} (hi : i < wordsN t.n) : U64 (t.ws.getD i 0) ∧ t.ws.getD i 0 ∈ t.ws ∧ t.ws[i]? = some (t.ws.getD i 0) := by
  have hl : i < t.ws.length := by rw [h.len]; exact hi
  have e : t.ws[i]? = some (t.ws.getD i 0) := by rw [List.getD_eq_getElem?_getD, List.getElem?_eq_getElem hl]; rfl
  have hm := List.mem_of_getElem? e
  exact ⟨h.u _ hm, hm, e⟩

theorem div64_lt {n x : Nat} (hx : x < 2 ^ n) : x / 64 < wordsN n := by
  by_cases h : 6 ≤ n
  · have := wordsN_mul h; omega
  · have : (2 : Nat) ^ n ≤ 2 ^ 6 := Nat.pow_le_pow_right (by omega) (by omega)
    unfold wordsN; rw [if_pos (by omega)]; omega

theorem TV.ext {t u : TV} (ht : t.Ok) (hu : u.Ok) (hn : t.n = u.n) (h : ∀ x, x < 2 ^ t.n → t.bit x = u.bit x) : t = u := by
  obtain ⟨n, ws⟩ := t
  obtain ⟨m, vs⟩ := u
  simp only at hn; subst hn
  congr 1
  apply List.ext_getElem?
  intro i
  by_cases hi : i < wordsN n
  · obtain ⟨a1, a2, a3⟩ := ht.word (i := i) hi
    obtain ⟨b1, b2, b3⟩ := hu.word (i := i) hi
    show ws[i]? = vs[i]?
    have a3' : ws[i]? = some (ws.getD i 0) := a3
    have b3' : vs[i]? = some (vs.getD i 0) := b3
    rw [a3', b3']
    congr 1
    refine nb_ext a1 b1 fun j hj => ?_
    by_cases h6 : 6 ≤ n
    · have hw := wordsN_mul h6
      have := h (64 * i + j) (by show 64 * i + j < 2 ^ n; omega)
      unfold TV.bit at this
      rw [show (64 * i + j) / 64 = i by omega, show (64 * i + j) % 64 = j by omega] at this
      exact this
    · have hi0 : i = 0 := by unfold wordsN at hi; rw [if_pos (by omega)] at hi; omega
      subst hi0
      by_cases hj2 : j < 2 ^ n
      · have := h j hj2
        unfold TV.bit at this
        rw [show j / 64 = 0 by omega, show j % 64 = j by omega] at this
        exact this
      · rw [ht.low (by simpa using h6) _ a2 j (by simpa using hj2), hu.low (by simpa using h6) _ b2 j (by simpa using hj2)]
  · have e1 := ht.len
    have e2 := hu.len
    simp only at e1 e2
    rw [List.getElem?_eq_none (by omega), List.getElem?_eq_none (by omega)]

/-- the place of some values -/
def idx : Nat → (Nat → Bool) → Nat
  | 0, _ => 0
  | n + 1, y => idx n y + if y n then 2 ^ n else 0

theorem idx_lt : ∀ (n : Nat) (y : Nat → Bool), idx n y < 2 ^ n
  | 0, _ => by simp [idx]
  | n + 1, y => by
    have := idx_lt n y
    have e : (2 : Nat) ^ (n + 1) = 2 ^ n + 2 ^ n := by rw [Nat.pow_succ]; omega
    unfold idx; split <;> omega

theorem idx_bit : ∀ (n : Nat) (y : Nat → Bool) (v : Nat), (idx n y).testBit v = (decide (v < n) && y v)
  | 0, y, v => by simp [idx]
  | n + 1, y, v => by
    have hl := idx_lt n y
    have ih := idx_bit n y v
    unfold idx
    by_cases hy : y n = true
    · rw [if_pos hy, Nat.add_comm]
      by_cases hv : v = n
      · subst hv
        rw [Nat.testBit_two_pow_add_eq, Nat.testBit_lt_two_pow hl]
        simp [hy]
      · by_cases hvn : v < n
        · rw [Nat.testBit_two_pow_add_gt hvn, ih]
          simp [hvn, show v < n + 1 by omega]
        · have h2 : 2 ^ n + idx n y < 2 ^ v := by
            have e : (2 : Nat) ^ (n + 1) = 2 ^ n + 2 ^ n := by rw [Nat.pow_succ]; omega
            have : (2 : Nat) ^ (n + 1) ≤ 2 ^ v := Nat.pow_le_pow_right (by omega) (by omega)
            omega
          rw [Nat.testBit_lt_two_pow h2]
          simp [show ¬ v < n + 1 by omega]
    · rw [if_neg hy, Nat.add_zero, ih]
      by_cases hv : v = n
      · subst hv; simp [hy]
      · have : (v < n) ↔ (v < n + 1) := by omega
        simp [this]

theorem idx_of {n x : Nat} (hx : x < 2 ^ n) : idx n (fun v => x.testBit v) = x := by
  apply Nat.eq_of_testBit_eq
  intro v
  rw [idx_bit]
  by_cases hv : v < n
  · simp [hv]
  · have : x < 2 ^ v := Nat.lt_of_lt_of_le hx (Nat.pow_le_pow_right (by omega) (by omega))
    rw [Nat.testBit_lt_two_pow this]; simp [hv]

/-- a place, one variable set -/
def setb (x v : Nat) (b : Bool) : Nat := if x.testBit v = b then x else if b then x + 2 ^ v else x - 2 ^ v

theorem tb_add {x v : Nat} (h : x.testBit v = false) (u : Nat) : (x + 2 ^ v).testBit u = if u = v then true else x.testBit u := by
  by_cases hu : u = v
  · subst hu; rw [if_pos rfl, Nat.add_comm, Nat.testBit_two_pow_add_eq, h]; rfl
  · rw [if_neg hu]
    have e : x + 2 ^ v = x ||| 2 ^ v := by
      have hd := Nat.div_add_mod x (2 ^ (v + 1))
      have hm : x % 2 ^ (v + 1) < 2 ^ v := by
        have h1 : x % 2 ^ (v + 1) < 2 ^ (v + 1) := Nat.mod_lt _ (Nat.two_pow_pos _)
        have h2 : (x % 2 ^ (v + 1)).testBit v = false := by rw [Nat.testBit_mod_two_pow, h]; simp
        by_cases hge : 2 ^ v ≤ x % 2 ^ (v + 1)
        · exfalso
          have e2 : (2 : Nat) ^ (v + 1) = 2 ^ v + 2 ^ v := by rw [Nat.pow_succ]; omega
          have e3 : x % 2 ^ (v + 1) = 2 ^ v + (x % 2 ^ (v + 1) - 2 ^ v) := by omega
          rw [e3, Nat.testBit_two_pow_add_eq, Nat.testBit_lt_two_pow (by omega)] at h2
          cases h2
        · omega
      apply Nat.eq_of_testBit_eq
      intro i
      have e4 : x + 2 ^ v = 2 ^ (v + 1) * (x / 2 ^ (v + 1)) + (2 ^ v + x % 2 ^ (v + 1)) := by omega
      have e5 : 2 ^ v + x % 2 ^ (v + 1) < 2 ^ (v + 1) := by
        have e2 : (2 : Nat) ^ (v + 1) = 2 ^ v + 2 ^ v := by rw [Nat.pow_succ]; omega
        omega
      rw [e4, Nat.testBit_two_pow_mul_add _ e5, Nat.testBit_or, Nat.testBit_two_pow]
      have h6 := Nat.testBit_mod_two_pow x (v + 1) i
      have h7 : x.testBit i = if i < v + 1 then (x % 2 ^ (v + 1)).testBit i else (x / 2 ^ (v + 1)).testBit (i - (v + 1)) := by
        split
        · rename_i hi; rw [h6]; simp [hi]
        · rename_i hi; rw [Nat.testBit_div_two_pow]; congr 1; omega
      rw [h7]
      by_cases hi : i < v + 1
      · rw [if_pos hi, if_pos hi]
        by_cases hiv : i = v
        · subst hiv; rw [Nat.testBit_two_pow_add_eq, Nat.testBit_lt_two_pow hm]; simp
        · rw [Nat.testBit_two_pow_add_gt (by omega)]; simp [Ne.symm hiv]
      · rw [if_neg hi, if_neg hi]
        have : ¬ v = i := by omega
        simp [this]
    rw [e, Nat.testBit_or, Nat.testBit_two_pow]
    simp [Ne.symm hu]

theorem setb_bit (x v : Nat) (b : Bool) (u : Nat) : (setb x v b).testBit u = if u = v then b else x.testBit u := by
  unfold setb
  by_cases h : x.testBit v = b
  · rw [if_pos h]
    by_cases hu : u = v
    · subst hu; rw [if_pos rfl]; exact h
    · rw [if_neg hu]
  · rw [if_neg h]
    cases b with
    | true =>
      have h' : x.testBit v = false := by simpa using h
      rw [if_pos rfl, tb_add h']
    | false =>
      have h' : x.testBit v = true := by simpa using h
      have hge : 2 ^ v ≤ x := Nat.ge_two_pow_of_testBit h'
      have h0 : (x - 2 ^ v).testBit v = false := by
        cases e : (x - 2 ^ v).testBit v with
        | false => rfl
        | true =>
          have := Nat.testBit_two_pow_add_eq (x - 2 ^ v) v
          rw [Nat.add_comm, Nat.sub_add_cancel hge, h', e] at this; cases this
      have := tb_add h0 u
      rw [Nat.sub_add_cancel hge] at this
      simp only [Bool.false_eq_true, if_false]
      by_cases hu : u = v
      · subst hu; rw [if_pos rfl]; exact h0
      · rw [if_neg hu] at this ⊢; exact this.symm

theorem setb_lt {x v n : Nat} (b : Bool) (hx : x < 2 ^ n) (hv : v < n) : setb x v b < 2 ^ n := by
  apply Nat.lt_pow_two_of_testBit
  intro i hi
  rw [setb_bit, if_neg (by omega)]
  exact Nat.testBit_lt_two_pow (Nat.lt_of_lt_of_le hx (Nat.pow_le_pow_right (by omega) hi))

theorem setb_idx {n v : Nat} (hv : v < n) (y : Nat → Bool) (b : Bool) : setb (idx n y) v b = idx n (upd y v b) := by
  apply Nat.eq_of_testBit_eq
  intro u
  rw [setb_bit, idx_bit, idx_bit]
  by_cases hu : u = v
  · subst hu; simp [hv, upd]
  · simp [hu, upd]

/-- the function of a table -/
def TV.fn (t : TV) (y : Nat → Bool) : Bool := t.bit (idx t.n y)

theorem TV.fn_ext {t u : TV} (ht : t.Ok) (hu : u.Ok) (hn : t.n = u.n) (h : ∀ y, t.fn y = u.fn y) : t = u :=
  TV.ext ht hu hn fun x hx => by
    have := h fun v => x.testBit v
    unfold TV.fn at this
    rw [idx_of hx, ← hn, idx_of hx] at this
    exact this

/-- the function does not see variables that there are not -/
theorem TV.fn_same (t : TV) {x y : Nat → Bool} (h : ∀ v, v < t.n → x v = y v) : t.fn x = t.fn y := by
  have : idx t.n x = idx t.n y := by
    apply Nat.eq_of_testBit_eq
    intro v
    rw [idx_bit, idx_bit]
    by_cases hv : v < t.n
    · simp [hv, h v hv]
    · simp [hv]
  unfold TV.fn; rw [this]
end Go.Proofs.YtnenhecnkidnpaaGreat


/- Tables by their values: constants, variables, cofactors; no program is named. -/
namespace Go.Proofs.YtnenhecnkidnpaaGreat
open Go.RowKit

def mkT (n : Nat) (f : Nat → Bool) : TV := ⟨n, (List.range (wordsN n)).map fun i => ((idx 64 fun j => decide (64 * i + j < 2 ^ n) && f (64 * i + j) : Nat) : Int)⟩

theorem nb_cast (m i : Nat) : nb (m : Int) i = m.testBit i := by simp [nb]

theorem mkT_word (n : Nat) (f : Nat → Bool) {i : Nat} (hi : i < wordsN n) : (mkT n f).ws.getD i 0 = ((idx 64 fun j => decide (64 * i + j < 2 ^ n) && f (64 * i + j) : Nat) : Int) := by
  rw [List.getD_eq_getElem?_getD]
  simp [mkT, hi]

theorem mkT_ok {n : Nat} (f : Nat → Bool) (hn : n ≤ 16) : (mkT n f).Ok := by
  refine ⟨hn, by simp [mkT], fun x hx => ?_, fun h6 x hx i hi => ?_⟩
  · simp only [mkT, List.mem_map] at hx
    obtain ⟨i, _, rfl⟩ := hx
    have := idx_lt 64 fun j => decide (64 * i + j < 2 ^ n) && f (64 * i + j)
    unfold U64; omega
  · have h6' : n < 6 := h6
    have hi' : 2 ^ n ≤ i := hi
    simp only [mkT, List.mem_map, List.mem_range] at hx
    obtain ⟨j, hj, rfl⟩ := hx
    have hj0 : j = 0 := by unfold wordsN at hj; rw [if_pos (by omega)] at hj; omega
    subst hj0
    rw [nb_cast, idx_bit]
    simp; intro _ h; omega

theorem mkT_bit {n : Nat} (f : Nat → Bool) {x : Nat} (hx : x < 2 ^ n) : (mkT n f).bit x = f x := by
  unfold TV.bit
  rw [mkT_word n f (div64_lt hx), nb_cast, idx_bit]
  have e : 64 * (x / 64) + x % 64 = x := by omega
  simp only [e, hx, decide_true, Bool.true_and]
  have : x % 64 < 64 := Nat.mod_lt _ (by omega)
  simp [this]

theorem mkT_n (n : Nat) (f : Nat → Bool) : (mkT n f).n = n := rfl

theorem mkT_eq {t : TV} (ht : t.Ok) {f : Nat → Bool} (h : ∀ x, x < 2 ^ t.n → t.bit x = f x) : t = mkT t.n f :=
  TV.ext ht (mkT_ok f ht.n16) rfl fun x hx => by rw [h x hx, mkT_bit f hx]

theorem mkT_fn {n : Nat} (f : Nat → Bool) (y : Nat → Bool) : (mkT n f).fn y = f (idx n y) := by
  unfold TV.fn; rw [mkT_n, mkT_bit f (idx_lt n y)]

def constT (n : Nat) (b : Bool) : TV := mkT n fun _ => b
def varT (n v : Nat) : TV := mkT n fun x => x.testBit v
def cofT (t : TV) (v : Nat) (b : Bool) : TV := mkT t.n fun x => t.bit (setb x v b)

theorem constT_fn (n : Nat) (b : Bool) (y : Nat → Bool) : (constT n b).fn y = b := mkT_fn _ y
theorem cofT_fn {t : TV} {v : Nat} (hv : v < t.n) (b : Bool) (y : Nat → Bool) : (cofT t v b).fn y = t.fn (upd y v b) := by
  unfold cofT; rw [mkT_fn, setb_idx hv]; rfl
theorem cofT_ok {t : TV} (ht : t.Ok) (v : Nat) (b : Bool) : (cofT t v b).Ok := mkT_ok _ ht.n16

/-- does the function of a table depend on a variable? -/
def depT (t : TV) (v : Nat) : Bool := !decide (cofT t v false = cofT t v true)

theorem depT_iff {t : TV} (ht : t.Ok) {v : Nat} (hv : v < t.n) : depT t v = true ↔ Hangs t.fn v := by
  unfold depT
  rw [Bool.not_eq_true', decide_eq_false_iff_not]
  constructor
  · intro hne
    by_cases hh : ∃ y, t.fn (upd y v true) ≠ t.fn (upd y v false)
    · exact hh
    · exfalso
      refine hne (TV.fn_ext (cofT_ok ht v false) (cofT_ok ht v true) rfl fun y => ?_)
      rw [cofT_fn hv, cofT_fn hv]
      by_cases h : t.fn (upd y v false) = t.fn (upd y v true)
      · exact h
      · exact absurd ⟨y, fun e => h e.symm⟩ hh
  · rintro ⟨y, hy⟩ e
    exact hy (by rw [← cofT_fn hv true y, ← cofT_fn hv false y, e])

/-! ### the words of a cofactor, as the code reckons them -/
theorem setb_low {x v : Nat} (b : Bool) (hv : v < 6) : setb x v b / 64 = x / 64 ∧ setb x v b % 64 = setb (x % 64) v b := by
  constructor
  · apply Nat.eq_of_testBit_eq
    intro i
    rw [show (64 : Nat) = 2 ^ 6 from rfl, Nat.testBit_div_two_pow, Nat.testBit_div_two_pow, setb_bit, if_neg (by omega)]
  · apply Nat.eq_of_testBit_eq
    intro i
    rw [show (64 : Nat) = 2 ^ 6 from rfl, Nat.testBit_mod_two_pow, setb_bit, setb_bit, Nat.testBit_mod_two_pow]
    by_cases h : i = v
    · subst h; simp [hv]
    · simp [h]

theorem u64_zero : U64 0 := by unfold U64; omega

theorem nb_shr {x : Int} (hx : U64 x) (k i : Nat) : U64 (x / 2 ^ k) ∧ nb (x / 2 ^ k) i = nb x (i + k) := by
  obtain ⟨n, rfl⟩ : ∃ n : Nat, x = (n : Int) := ⟨x.toNat, by unfold U64 at hx; omega⟩
  have e : ((n : Int) / 2 ^ k) = ((n / 2 ^ k : Nat) : Int) := by push_cast; rfl
  refine ⟨?_, ?_⟩
  · rw [e]
    have h1 := Nat.div_le_self n (2 ^ k)
    generalize n / 2 ^ k = m at h1 ⊢
    unfold U64 at hx ⊢; omega
  · rw [e, nb_cast, nb_cast, Nat.testBit_div_two_pow, Nat.add_comm]

theorem nb_shl {x : Int} (hx : U64 x) (k i : Nat) : nb (IntKind.u64.wrap (x * 2 ^ k)) i = (decide (i < 64) && (decide (k ≤ i) && nb x (i - k))) := by
  obtain ⟨n, rfl⟩ : ∃ n : Nat, x = (n : Int) := ⟨x.toNat, by unfold U64 at hx; omega⟩
  have e : IntKind.u64.wrap ((n : Int) * 2 ^ k) = ((n * 2 ^ k % 18446744073709551616 : Nat) : Int) := by
    have h1 : IntKind.u64.wrap ((n : Int) * 2 ^ k) = ((n : Int) * 2 ^ k) % 18446744073709551616 := rfl
    have h2 : (n : Int) * 2 ^ k = ((n * 2 ^ k : Nat) : Int) := by push_cast; rfl
    rw [h1, h2]
    generalize n * 2 ^ k = m
    omega
  rw [e, nb_cast, nb_cast, show (18446744073709551616 : Nat) = 2 ^ 64 from rfl, Nat.testBit_mod_two_pow, Nat.testBit_mul_two_pow]

/-- a word's cofactor -/
def cofW (v : Nat) (b : Bool) (ones w : Int) : Int :=
  if b then bits BinOp.or IntKind.u64 (bits BinOp.and IntKind.u64 w ones) (bits BinOp.and IntKind.u64 w ones / 2 ^ (2 ^ v))
  else bits BinOp.or IntKind.u64 (bits BinOp.andNot IntKind.u64 w ones) (IntKind.u64.wrap (bits BinOp.andNot IntKind.u64 w ones * 2 ^ (2 ^ v)))

theorem low_facts : ∀ v, v < 6 → ∀ i, i < 64 → (((i + 2 ^ v).testBit v = !i.testBit v) ∧ (i.testBit v = true → 2 ^ v ≤ i ∧ (i - 2 ^ v).testBit v = false) ∧ (2 ^ v ≤ i → i.testBit v = false → (i - 2 ^ v).testBit v = true)) := by decide +kernel

theorem cofW_bit {v : Nat} (hv : v < 6) (b : Bool) {ones w : Int} (hw : U64 w) (ho : U64 ones) (hob : ∀ i, i < 64 → nb ones i = i.testBit v) : U64 (cofW v b ones w) ∧ ∀ i, i < 64 → nb (cofW v b ones w) i = nb w (setb i v b) := by
  have p6 : (2 : Nat) ^ v ≤ 32 := by
    have : (2 : Nat) ^ v ≤ 2 ^ 5 := Nat.pow_le_pow_right (by omega) (by omega)
    omega
  unfold cofW
  cases b with
  | true =>
    rw [if_pos rfl]
    have hA := bits_u64 BinOp.and w ones
    have hS := fun i => nb_shr hA (2 ^ v) i
    refine ⟨bits_u64 _ _ _, fun i hi => ?_⟩
    obtain ⟨f1, f2, f3⟩ := low_facts v hv i hi
    rw [nb_or hA (hS 0).1, (hS i).2, nb_and hw ho, nb_and hw ho, hob i hi]
    unfold setb
    cases hb : i.testBit v with
    | true =>
      rw [if_pos rfl]
      have : nb ones (i + 2 ^ v) = false := by
        by_cases h64 : i + 2 ^ v < 64
        · rw [hob _ h64, f1, hb]; rfl
        · exact nb_high ho (by omega)
      rw [this]; simp
    | false =>
      simp only [Bool.false_eq_true, if_false, if_true, Bool.and_false, Bool.false_or]
      by_cases h64 : i + 2 ^ v < 64
      · rw [hob _ h64, f1, hb]; simp
      · rw [nb_high hw (by omega)]; simp
  | false =>
    simp only [Bool.false_eq_true, if_false]
    have hA := bits_u64 BinOp.andNot w ones
    refine ⟨bits_u64 _ _ _, fun i hi => ?_⟩
    obtain ⟨f1, f2, f3⟩ := low_facts v hv i hi
    have hsub := Nat.sub_le i (2 ^ v)
    rw [nb_or hA (wrap_u64 _), nb_shl hA, nb_andNot hw ho hi, hob i hi]
    unfold setb
    cases hb : i.testBit v with
    | true =>
      obtain ⟨g1, g2⟩ := f2 hb
      simp only [Bool.not_true, Bool.and_false, Bool.false_or, hi, decide_true, Bool.true_and, g1]
      rw [nb_andNot hw ho (by omega), hob _ (by omega), g2]; simp
    | false =>
      rw [if_pos rfl]
      simp only [Bool.not_false, Bool.and_true, hi, decide_true, Bool.true_and]
      by_cases hle : 2 ^ v ≤ i
      · rw [nb_andNot hw ho (by omega), hob _ (by omega), f3 hle hb]; simp
      · simp [hle]

/-- the cofactor's words, of a variable within words -/
theorem cof_low {t : TV} (ht : t.Ok) {v : Nat} (hv : v < 6) (hvn : v < t.n) (b : Bool) {ones : Int} (ho : U64 ones) (hob : ∀ i, i < 64 → nb ones i = i.testBit v) : cofT t v b = ⟨t.n, t.ws.map (cofW v b ones)⟩ := by
  have hok : (⟨t.n, t.ws.map (cofW v b ones)⟩ : TV).Ok := by
    refine ⟨ht.n16, by simp [ht.len], fun x hx => ?_, fun h6 x hx i hi => ?_⟩
    · obtain ⟨w, hw, rfl⟩ := List.mem_map.1 hx
      exact (cofW_bit hv b (ht.u w hw) ho hob).1
    · obtain ⟨w, hw, rfl⟩ := List.mem_map.1 hx
      have hc := cofW_bit hv b (ht.u w hw) ho hob
      by_cases h64 : i < 64
      · rw [hc.2 i h64]
        have h6' : t.n < 6 := h6
        have hi' : 2 ^ t.n ≤ i := hi
        refine ht.low h6' w hw _ ?_
        by_cases hlt : setb i v b < 2 ^ t.n
        · exfalso
          have : setb (setb i v b) v (i.testBit v) = i := by
            apply Nat.eq_of_testBit_eq
            intro u
            rw [setb_bit, setb_bit]
            by_cases hu : u = v
            · subst hu; simp
            · simp [hu]
          have h2 := setb_lt (i.testBit v) hlt hvn
          rw [this] at h2; omega
        · omega
      · exact nb_high hc.1 (by omega)
  refine (mkT_eq hok fun x hx => ?_).symm
  have hd := div64_lt (n := t.n) hx
  obtain ⟨w1, w2, w3⟩ := ht.word hd
  unfold TV.bit
  have e : (t.ws.map (cofW v b ones)).getD (x / 64) 0 = cofW v b ones (t.ws.getD (x / 64) 0) := by
    rw [List.getD_eq_getElem?_getD, List.getElem?_map, w3]; rfl
  show nb ((t.ws.map (cofW v b ones)).getD (x / 64) 0) (x % 64) = nb (t.ws.getD (setb x v b / 64) 0) (setb x v b % 64)
  rw [e, (cofW_bit hv b w1 ho hob).2 _ (Nat.mod_lt _ (by omega)), (setb_low b hv).1, (setb_low b hv).2]

end Go.Proofs.YtnenhecnkidnpaaGreat


/- The first example, as data. -/
namespace Go.Proofs.YtnenhecnkidnpaaGreat

theorem MakeR.is_new {K K' : KV} {v : Int} {lo hi r : Nat} {c : Int} (M : MakeR K v lo hi r c K') (h0 : K.fitsE v lo hi = 0) (hne : lo ≠ hi) (hno : ∀ s, ¬ K.At s v.toNat lo hi) (hu : K.A.used ≠ K.A.places) : c = 0 ∧ K.Made v.toNat lo hi r K' := by
  cases M with
  | bad h => exact absurd h0 h
  | full _ hs _ =>
    rcases hs with hs | hs
    · exact absurd hs.1 hne
    · exact absurd hs.2 (hno _)
  | old _ hs _ =>
    rcases hs with hs | hs
    · exact absurd hs.1 hne
    · exact absurd hs.2 (hno _)
  | nodes _ _ _ h => exact absurd h hu
  | new _ _ _ h => exact ⟨rfl, h⟩

/-- a kernel of variables one above the other, as it began -/
structure Plain (K : KV) (n m : Nat) : Prop where
  ok : K.Ok
  uni : K.Uni
  vr : K.vars = n
  lv : ∀ v, v < n → K.lev v = v
  pl : K.A.places = m

theorem Plain.ext {K K' : KV} {n m : Nat} (h : Plain K n m) (e : K.Ext K') (hk : K'.Ok) (hu : K'.Uni) : Plain K' n m :=
  ⟨hk, hu, e.vr.trans h.vr, fun v hv => (e.lev v).trans (h.lv v hv), e.pl.trans h.pl⟩

theorem plain_new {n m : Nat} (h1 : 1 ≤ n) (hn : n ≤ 64) (h2 : 2 ≤ m) (hm : m ≤ 1048576) : Plain (KV.new n m) n m := by
  refine ⟨KV.new_ok h1 hn h2 hm, (TInv.new n m).uni (KV.new_ok h1 hn h2 hm).wf, rfl, fun v hv => by simp [KV.lev, KV.new, hv], rfl⟩

/-- a variable that is not there yet is made -/
theorem Plain.var {K K' : KV} {n m v r : Nat} {c : Int} (h : Plain K n m) (hv : v < n) (hno : ∀ s, ¬ K.At s v 0 1) (hu : K.A.used < m) (M : MakeR K (v : Int) 0 1 r c K') : c = 0 ∧ K.Made v 0 1 r K' := by
  have hvr := h.vr
  have hpl := h.pl
  refine M.is_new (KV.fits_ok (by omega) (h.ok.tk_const (by omega)) (h.ok.tk_const (by omega)) fun _ => ?_) (by omega) (by simpa using hno) (by omega)
  rw [h.lv v hv, h.ok.wf.dep_const (by omega), h.ok.wf.dep_const (by omega)]
  omega

/-- what stands in a kernel with one node more -/
theorem KV.Made.at_iff {K K' : KV} {v lo hi r : Nat} (M : K.Made v lo hi r K') {s u lo' hi' : Nat} : K'.At s u lo' hi' ↔ (s = r ∧ u = v ∧ lo' = lo ∧ hi' = hi) ∨ K.At s u lo' hi' := by
  constructor
  · intro h
    obtain ⟨h2, p, hp, hpt, e1, e2, e3⟩ := h
    by_cases e : s = r
    · subst e
      rw [M.at_] at hp; cases hp
      simp at e1 e2 e3
      exact .inl ⟨rfl, by omega, e2.symm, e3.symm⟩
    · have ht : K'.A.tk s = true := ArenaV.tk_iff.2 ⟨p, hp, hpt⟩
      rw [M.tk] at ht
      simp [e] at ht
      obtain ⟨p', hp', hpt'⟩ := ArenaV.tk_iff.1 ht
      have := M.ext.nd s p' hp' hpt'
      rw [hp] at this; cases this
      exact .inr ⟨h2, p, hp', hpt, e1, e2, e3⟩
  · rintro (⟨rfl, rfl, rfl, rfl⟩ | ⟨h2, p, hp, hpt, rest⟩)
    · exact ⟨M.two, _, M.at_, rfl, rfl, rfl, rfl⟩
    · exact ⟨h2, p, M.ext.nd s p hp hpt, hpt, rest⟩

/-- two variables stand in the kernel, nothing else -/
structure TwoV (K : KV) (n m r1 r2 : Nat) : Prop where
  pl : Plain K n m
  us : K.A.used = 4
  tk : ∀ x, K.A.tk x = true ↔ x = 0 ∨ x = 1 ∨ x = r1 ∨ x = r2
  d1 : ∀ y, K.den r1 y = y 0
  d2 : ∀ y, K.den r2 y = y 1
  h1 : ∀ x, K.hold x ≤ 1

theorem new_tk (n m x : Nat) : (KV.new n m).A.tk x = true ↔ x < 2 := by
  constructor
  · intro h
    have := ArenaV.tk_lt h
    simp [KV.new, ArenaV.new] at this
    exact this
  · intro h
    obtain rfl | rfl : x = 0 ∨ x = 1 := by omega
    · rfl
    · rfl

theorem two_vars {n m r1 r2 : Nat} {c1 c2 : Int} {K1 K2 : KV} (h2 : 2 ≤ n) (hn : n ≤ 64) (hm4 : 5 ≤ m) (hm : m ≤ 1048576) (k1 : K1.Ok) (u1 : K1.Uni) (k2 : K2.Ok) (u2 : K2.Uni) (M1 : MakeR (KV.new n m) ((0 : Nat) : Int) 0 1 r1 c1 K1) (M2 : MakeR K1 ((1 : Nat) : Int) 0 1 r2 c2 K2) :
    c1 = 0 ∧ c2 = 0 ∧ TwoV K2 n m r1 r2 := by
  have P0 := plain_new (n := n) (m := m) (by omega) hn (by omega) hm
  have no0 : ∀ s u lo hi, ¬ (KV.new n m).At s u lo hi := fun s u lo hi h => by
    have := (new_tk n m s).1 h.tk
    have := h.1
    omega
  have us0 : (KV.new n m).A.used = 2 := rfl
  obtain ⟨e1, A1⟩ := P0.var (by omega) (no0 · 0 0 1) (by omega) M1
  have P1 := P0.ext A1.ext k1 u1
  have us1 := A1.us
  obtain ⟨e2, A2⟩ := P1.var (by omega) (fun s h => by
    rcases A1.at_iff.1 h with ⟨_, h, _⟩ | h
    · omega
    · exact no0 _ _ _ _ h) (by omega) M2
  have P2 := P1.ext A2.ext k2 u2
  have us2 := A2.us
  have at1 : K2.At r1 0 0 1 := A2.at_iff.2 (.inr (A1.at_iff.2 (.inl ⟨rfl, rfl, rfl, rfl⟩)))
  have at2 : K2.At r2 1 0 1 := A2.at_iff.2 (.inl ⟨rfl, rfl, rfl, rfl⟩)
  have c01 : ∀ y, K2.den 0 y = false ∧ K2.den 1 y = true := fun y => ⟨K2.den_const (by omega) y, K2.den_const (by omega) y⟩
  refine ⟨e1, e2, P2, by omega, fun x => ?_, fun y => ?_, fun y => ?_, fun x => ?_⟩
  · rw [A2.tk, A1.tk]
    simp only [Bool.or_eq_true, decide_eq_true_eq, new_tk]
    omega
  · rw [at1.den k2, (c01 y).1, (c01 y).2]; cases y 0 <;> rfl
  · rw [at2.den k2, (c01 y).1, (c01 y).2]; cases y 1 <;> rfl
  · rw [A2.hd]
    have hz : (KV.new n m).hold x = 0 := by simp [KV.hold, KV.new]
    split
    · omega
    · rw [A1.hd]; split <;> omega

theorem opB_and (a b : Bool) : opB 8 a b = (a && b) := by cases a <;> cases b <;> rfl
theorem opB_xor (a b : Bool) : opB 6 a b = (a != b) := by cases a <;> cases b <;> rfl

/-- whatever stands in a kernel that has grown by parts of the and of the two variables -/
theorem TwoV.parts {K K' : KV} {n m r1 r2 : Nat} (h : TwoV K n m r1 r2) (hn : 2 ≤ n) (e : K.Ext K') (k' : K'.Ok) (u' : K'.Uni) {t : (Nat → Bool) → Bool} (ht : ∀ y, t y = (y 0 && y 1)) (hnew : ∀ x, K'.A.tk x = true → K.A.tk x = false → K.SubN t (K'.den x)) (x : Nat) (hx : K'.A.tk x = true) :
    (x = 0 ∨ x = 1 ∨ x = r1 ∨ x = r2) ∨ ∀ y, K'.den x y = (y 0 && y 1) := by
  have wf := h.pl.ok.wf
  have can : ∀ {a b : Nat}, K'.A.tk a = true → K'.A.tk b = true → (∀ y, K'.den a y = K'.den b y) → a = b := fun ha hb h => KV.canon k'.wf k'.ord u' _ _ _ ha hb (Nat.le_refl _) h
  have t2 : K.A.tk r2 = true := (h.tk r2).2 (by simp)
  cases hk : K.A.tk x with
  | true => exact .inl ((h.tk x).1 hk)
  | false =>
    obtain ⟨l, a, hl⟩ := hnew x hx hk
    have hvr := h.pl.vr
    have l0 := h.pl.lv 0 (by omega)
    have l1 := h.pl.lv 1 (by omega)
    have m0 : ∀ y, K.mix l a y 0 = if 0 < l then a 0 else y 0 := fun y => by simp only [KV.mix, l0]; congr 1; simp; omega
    have m1 : ∀ y, K.mix l a y 1 = if 1 < l then a 1 else y 1 := fun y => by simp only [KV.mix, l1]; congr 1; simp; omega
    have hd : ∀ y, K'.den x y = ((if 0 < l then a 0 else y 0) && (if 1 < l then a 1 else y 1)) := fun y => by rw [hl, ht, m0, m1]
    by_cases h0 : 0 < l
    · left
      simp only [h0, if_true] at hd
      cases ha : a 0 with
      | false =>
        left
        refine can hx (k'.tk_const (by omega)) fun y => ?_
        rw [hd, ha, K'.den_const (by omega)]; simp
      | true =>
        by_cases h1 : 1 < l
        · simp only [h1, if_true] at hd
          cases hb : a 1 with
          | false =>
            left
            refine can hx (k'.tk_const (by omega)) fun y => ?_
            rw [hd, ha, hb, K'.den_const (by omega)]; simp
          | true =>
            right; left
            refine can hx (k'.tk_const (by omega)) fun y => ?_
            rw [hd, ha, hb, K'.den_const (by omega)]; simp
        · right; right; right
          simp only [h1, if_false] at hd
          refine can hx (e.tk t2) fun y => ?_
          rw [hd, ha, e.den wf y t2, h.d2]; simp
    · right
      intro y
      rw [hd]; simp only [h0, if_false]
      rw [if_neg (by omega)]

theorem TwoV.fits {K : KV} {n m r1 r2 : Nat} (h : TwoV K n m r1 r2) (hn : 2 ≤ n) (hm : 6 ≤ m) {t : (Nat → Bool) → Bool} (ht : ∀ y, t y = (y 0 && y 1)) : ¬ NoFit K (K.SubN t) := by
  rintro ⟨K', M, g, hk, hu, R, hus, _⟩
  have hp := (h.pl.ext R.ext hk hu).pl
  have parts := h.parts hn R.ext hk hu ht R.new
  by_cases hf : ∃ f, K'.A.tk f = true ∧ ∀ y, K'.den f y = (y 0 && y 1)
  · obtain ⟨f, tf, df⟩ := hf
    have := K'.used_le hk.wf (l := [0, 1, r1, r2, f]) fun x hx => by
      rcases parts x hx with h | h
      · simp; omega
      · have : x = f := KV.canon hk.wf hk.ord hu _ _ _ hx tf (Nat.le_refl _) fun y => by rw [h, df]
        simp [this]
    simp at this; omega
  · have := K'.used_le hk.wf (l := [0, 1, r1, r2]) fun x hx => by
      rcases parts x hx with h | h
      · simp; omega
      · exact absurd ⟨x, hx, h⟩ hf
    simp at this; omega

/-- two variables and their and stand in the kernel -/
structure ThreeN (K : KV) (n m r1 r2 f : Nat) : Prop where
  pl : Plain K n m
  us : K.A.used = 5
  tk : ∀ x, K.A.tk x = true ↔ x = 0 ∨ x = 1 ∨ x = r1 ∨ x = r2 ∨ x = f
  d1 : ∀ y, K.den r1 y = y 0
  d2 : ∀ y, K.den r2 y = y 1
  df : ∀ y, K.den f y = (y 0 && y 1)
  f2 : 2 ≤ f
  hf : K.hold f = 1

theorem TwoV.and {K K' : KV} {n m r1 r2 f : Nat} {c : Int} (h : TwoV K n m r1 r2) (hn : 2 ≤ n) (hm : 6 ≤ m) (k' : K'.Ok) (u' : K'.Uni) (O : OpR K (K.fun3 (fun x y _ => opB 8 x y) r1 r2 0) f c K') : c = 0 ∧ ThreeN K' n m r1 r2 f := by
  have ht : ∀ y, K.fun3 (fun x y _ => opB 8 x y) r1 r2 0 y = (y 0 && y 1) := fun y => by simp only [KV.fun3, opB_and, h.d1, h.d2]
  rcases O with ⟨rfl, O⟩ | ⟨_, _, _, s, _, _, hs⟩ | ⟨_, _, _, hno⟩
  · have wf := h.pl.ok.wf
    have df : ∀ y, K'.den f y = (y 0 && y 1) := fun y => by rw [O.den, ht]
    have t1 : K.A.tk r1 = true := (h.tk r1).2 (by simp)
    have t2 : K.A.tk r2 = true := (h.tk r2).2 (by simp)
    have d1 : ∀ y, K'.den r1 y = y 0 := fun y => by rw [O.ext.den wf y t1, h.d1]
    have d2 : ∀ y, K'.den r2 y = y 1 := fun y => by rw [O.ext.den wf y t2, h.d2]
    have n0 : f ≠ 0 := by
      rintro rfl
      have := df fun _ => true
      rw [K'.den_const (by omega)] at this; cases this
    have n1 : f ≠ 1 := by
      rintro rfl
      have := df fun _ => false
      rw [K'.den_const (by omega)] at this; cases this
    have nr1 : f ≠ r1 := by
      rintro rfl
      have a := df fun v => v == 0
      have b := d1 fun v => v == 0
      rw [a] at b; cases b
    have nr2 : f ≠ r2 := by
      rintro rfl
      have a := df fun v => v == 1
      have b := d2 fun v => v == 1
      rw [a] at b; cases b
    have r10 : r1 ≠ 0 := by
      rintro rfl
      have := d1 fun _ => true
      rw [K'.den_const (by omega)] at this; cases this
    have r11 : r1 ≠ 1 := by
      rintro rfl
      have := d1 fun _ => false
      rw [K'.den_const (by omega)] at this; cases this
    have r20 : r2 ≠ 0 := by
      rintro rfl
      have := d2 fun _ => true
      rw [K'.den_const (by omega)] at this; cases this
    have r21 : r2 ≠ 1 := by
      rintro rfl
      have := d2 fun _ => false
      rw [K'.den_const (by omega)] at this; cases this
    have r12 : r1 ≠ r2 := by
      rintro rfl
      have a := d1 fun v => v == 0
      have b := d2 fun v => v == 0
      rw [a] at b; cases b
    have tk : ∀ x, K'.A.tk x = true ↔ x = 0 ∨ x = 1 ∨ x = r1 ∨ x = r2 ∨ x = f := by
      intro x
      constructor
      · intro hx
        rcases h.parts hn O.ext k' u' ht O.new x hx with h | h
        · omega
        · have : x = f := KV.canon k'.wf k'.ord u' _ _ _ hx O.tk (Nat.le_refl _) fun y => by rw [h, df]
          omega
      · rintro (rfl | rfl | rfl | rfl | rfl)
        · exact k'.tk_const (by omega)
        · exact k'.tk_const (by omega)
        · exact O.ext.tk t1
        · exact O.ext.tk t2
        · exact O.tk
    have hle := K'.used_le k'.wf (l := [0, 1, r1, r2, f]) fun x hx => by
      have := (tk x).1 hx
      simp; omega
    have hge := K'.used_ge k'.wf (l := [0, 1, r1, r2, f]) (by simp; omega) fun x hx => (tk x).2 (by simpa using hx)
    have hf0 : K.hold f = 0 := by
      by_cases hp : 0 < K.hold f
      · have := (h.tk f).1 (wf.ht f hp).2
        omega
      · omega
    refine ⟨rfl, h.pl.ext O.ext k' u', by simp at hle hge; omega, tk, d1, d2, df, by omega, ?_⟩
    rw [O.hd, hf0]; simp; omega
  · have := h.h1 s; omega
  · exact (h.fits hn hm ht hno).elim

theorem ThreeN.xor {K K' : KV} {n m r1 r2 f g : Nat} {c : Int} (h : ThreeN K n m r1 r2 f) (k' : K'.Ok) (u' : K'.Uni) (O : OpR K (K.fun3 (fun x y _ => opB 6 x y) f f 0) g c K') : c = 0 ∧ g = 0 ∧ ThreeN K' n m r1 r2 f := by
  have ok := h.pl.ok
  have ht : ∀ y, K.den 0 y = K.fun3 (fun x y _ => opB 6 x y) f f 0 y := fun y => by
    rw [K.den_const (by omega)]
    simp only [KV.fun3, opB_xor]
    cases K.den f y <;> rfl
  have t0 := ok.tk_const (r := 0) (by omega)
  have hh : K.hold 0 < 65535 := by
    by_cases h0 : 0 < K.hold 0
    · have := (ok.wf.ht 0 h0).1; omega
    · omega
  obtain ⟨e1, e2, Q⟩ := O.live ok k' u' h.pl.uni t0 ht hh
  clear O
  subst e1 e2
  have O := Q
  have same := O.same ok k' u' t0 ht
  have t1 : K.A.tk r1 = true := (h.tk r1).2 (by simp)
  have t2 : K.A.tk r2 = true := (h.tk r2).2 (by simp)
  have tf : K.A.tk f = true := (h.tk f).2 (by simp)
  refine ⟨rfl, rfl, h.pl.ext O.ext k' u', ?_, fun x => (same x).trans (h.tk x), fun y => by rw [O.ext.den ok.wf y t1, h.d1], fun y => by rw [O.ext.den ok.wf y t2, h.d2], fun y => by rw [O.ext.den ok.wf y tf, h.df], h.f2, by rw [O.hd, h.hf]; simp⟩
  have a := K'.used_le k'.wf (l := K.lives) fun x hx => KV.mem_lives.2 ((same x).1 hx)
  have b := K'.used_ge k'.wf K.lives_nodup fun x hx => (same x).2 (KV.mem_lives.1 hx)
  rw [KV.lives_len ok.wf] at a b
  have := h.us
  omega

theorem ThreeN.ite {K K' : KV} {n m r1 r2 f g : Nat} {c : Int} (h : ThreeN K n m r1 r2 f) (k' : K'.Ok) (u' : K'.Uni) (O : OpR K (K.fun3 (fun x y z => if x then y else z) r1 r2 0) g c K') : c = 0 ∧ g = f ∧ K'.A.used = 5 ∧ K'.hold f = 2 := by
  have ok := h.pl.ok
  have ht : ∀ y, K.den f y = K.fun3 (fun x y z => if x then y else z) r1 r2 0 y := fun y => by
    rw [h.df]
    simp only [KV.fun3, h.d1, h.d2, K.den_const (show 0 < 2 by omega)]
    cases y 0 <;> simp
  have tf : K.A.tk f = true := (h.tk f).2 (by simp)
  obtain ⟨e1, e2, Q⟩ := O.live ok k' u' h.pl.uni tf ht (by rw [h.hf]; omega)
  clear O
  subst e1 e2
  have O := Q
  have same := O.same ok k' u' tf ht
  refine ⟨rfl, rfl, ?_, by rw [O.hd, h.hf]; simp [h.f2]⟩
  have a := K'.used_le k'.wf (l := K.lives) fun x hx => KV.mem_lives.2 ((same x).1 hx)
  have b := K'.used_ge k'.wf K.lives_nodup fun x hx => (same x).2 (KV.mem_lives.1 hx)
  rw [KV.lives_len ok.wf] at a b
  have := h.us
  omega
end Go.Proofs.YtnenhecnkidnpaaGreat


/- Two variables and their and, as data. -/
namespace Go.Proofs.YtnenhecnkidnpaaGreat

/-- two variables stand in the kernel, nothing else -/
structure TwoW (K : KV) (n m a b r1 r2 : Nat) : Prop where
  ab : a < b ∧ b < n
  pl : Plain K n m
  us : K.A.used = 4
  tk : ∀ x, K.A.tk x = true ↔ x = 0 ∨ x = 1 ∨ x = r1 ∨ x = r2
  d1 : ∀ y, K.den r1 y = y a
  d2 : ∀ y, K.den r2 y = y b
  h1 : ∀ x, K.hold x ≤ 1

theorem two_vars2 {n m a b r1 r2 : Nat} {c1 c2 : Int} {K1 K2 : KV} (hab : a < b ∧ b < n) (hn : n ≤ 64) (hm4 : 5 ≤ m) (hm : m ≤ 1048576) (k1 : K1.Ok) (u1 : K1.Uni) (k2 : K2.Ok) (u2 : K2.Uni) (M1 : MakeR (KV.new n m) (a : Int) 0 1 r1 c1 K1) (M2 : MakeR K1 (b : Int) 0 1 r2 c2 K2) :
    c1 = 0 ∧ c2 = 0 ∧ TwoW K2 n m a b r1 r2 := by
  have P0 := plain_new (n := n) (m := m) (by omega) hn (by omega) hm
  have no0 : ∀ s u lo hi, ¬ (KV.new n m).At s u lo hi := fun s u lo hi h => by
    have := (new_tk n m s).1 h.tk
    have := h.1
    omega
  have us0 : (KV.new n m).A.used = 2 := rfl
  obtain ⟨e1, A1⟩ := P0.var (by omega) (no0 · a 0 1) (by omega) M1
  have P1 := P0.ext A1.ext k1 u1
  have us1 := A1.us
  obtain ⟨e2, A2⟩ := P1.var (by omega) (fun s h => by
    rcases A1.at_iff.1 h with ⟨_, h, _⟩ | h
    · omega
    · exact no0 _ _ _ _ h) (by omega) M2
  have P2 := P1.ext A2.ext k2 u2
  have us2 := A2.us
  have at1 : K2.At r1 a 0 1 := A2.at_iff.2 (.inr (A1.at_iff.2 (.inl ⟨rfl, rfl, rfl, rfl⟩)))
  have at2 : K2.At r2 b 0 1 := A2.at_iff.2 (.inl ⟨rfl, rfl, rfl, rfl⟩)
  have c01 : ∀ y, K2.den 0 y = false ∧ K2.den 1 y = true := fun y => ⟨K2.den_const (by omega) y, K2.den_const (by omega) y⟩
  refine ⟨e1, e2, hab, P2, by omega, fun x => ?_, fun y => ?_, fun y => ?_, fun x => ?_⟩
  · rw [A2.tk, A1.tk]
    simp only [Bool.or_eq_true, decide_eq_true_eq, new_tk]
    omega
  · rw [at1.den k2, (c01 y).1, (c01 y).2]; cases y a <;> rfl
  · rw [at2.den k2, (c01 y).1, (c01 y).2]; cases y b <;> rfl
  · rw [A2.hd]
    have hz : (KV.new n m).hold x = 0 := by simp [KV.hold, KV.new]
    split
    · omega
    · rw [A1.hd]; split <;> omega

/-- whatever stands in a kernel that has grown by parts of the and of the two variables -/
theorem TwoW.parts {K K' : KV} {n m a b r1 r2 : Nat} (h : TwoW K n m a b r1 r2) (e : K.Ext K') (k' : K'.Ok) (u' : K'.Uni) {t : (Nat → Bool) → Bool} (ht : ∀ y, t y = (y a && y b)) (hnew : ∀ x, K'.A.tk x = true → K.A.tk x = false → K.SubN t (K'.den x)) (x : Nat) (hx : K'.A.tk x = true) :
    (x = 0 ∨ x = 1 ∨ x = r1 ∨ x = r2) ∨ ∀ y, K'.den x y = (y a && y b) := by
  have wf := h.pl.ok.wf
  have can : ∀ {c d : Nat}, K'.A.tk c = true → K'.A.tk d = true → (∀ y, K'.den c y = K'.den d y) → c = d := fun ha hb h => KV.canon k'.wf k'.ord u' _ _ _ ha hb (Nat.le_refl _) h
  have t2 : K.A.tk r2 = true := (h.tk r2).2 (by simp)
  cases hk : K.A.tk x with
  | true => exact .inl ((h.tk x).1 hk)
  | false =>
    obtain ⟨l, z, hl⟩ := hnew x hx hk
    have hvr := h.pl.vr
    have hab := h.ab
    have l0 := h.pl.lv a (by omega)
    have l1 := h.pl.lv b (by omega)
    have m0 : ∀ y, K.mix l z y a = if a < l then z a else y a := fun y => by simp only [KV.mix, l0]; congr 1; simp; omega
    have m1 : ∀ y, K.mix l z y b = if b < l then z b else y b := fun y => by simp only [KV.mix, l1]; congr 1; simp; omega
    have hd : ∀ y, K'.den x y = ((if a < l then z a else y a) && (if b < l then z b else y b)) := fun y => by rw [hl, ht, m0, m1]
    by_cases h0 : a < l
    · left
      simp only [h0, if_true] at hd
      cases ha : z a with
      | false =>
        left
        refine can hx (k'.tk_const (by omega)) fun y => ?_
        rw [hd, ha, K'.den_const (by omega)]; simp
      | true =>
        by_cases h1 : b < l
        · simp only [h1, if_true] at hd
          cases hb : z b with
          | false =>
            left
            refine can hx (k'.tk_const (by omega)) fun y => ?_
            rw [hd, ha, hb, K'.den_const (by omega)]; simp
          | true =>
            right; left
            refine can hx (k'.tk_const (by omega)) fun y => ?_
            rw [hd, ha, hb, K'.den_const (by omega)]; simp
        · right; right; right
          simp only [h1, if_false] at hd
          refine can hx (e.tk t2) fun y => ?_
          rw [hd, ha, e.den wf y t2, h.d2]; simp
    · right
      intro y
      rw [hd]; simp only [h0, if_false]
      rw [if_neg (by omega)]

theorem TwoW.fits {K : KV} {n m a b r1 r2 : Nat} (h : TwoW K n m a b r1 r2) (hm : 6 ≤ m) {t : (Nat → Bool) → Bool} (ht : ∀ y, t y = (y a && y b)) : ¬ NoFit K (K.SubN t) := by
  rintro ⟨K', M, g, hk, hu, R, hus, _⟩
  have hp := (h.pl.ext R.ext hk hu).pl
  have parts := h.parts R.ext hk hu ht R.new
  by_cases hf : ∃ f, K'.A.tk f = true ∧ ∀ y, K'.den f y = (y a && y b)
  · obtain ⟨f, tf, df⟩ := hf
    have := K'.used_le hk.wf (l := [0, 1, r1, r2, f]) fun x hx => by
      rcases parts x hx with h | h
      · simp; omega
      · have : x = f := KV.canon hk.wf hk.ord hu _ _ _ hx tf (Nat.le_refl _) fun y => by rw [h, df]
        simp [this]
    simp at this; omega
  · have := K'.used_le hk.wf (l := [0, 1, r1, r2]) fun x hx => by
      rcases parts x hx with h | h
      · simp; omega
      · exact absurd ⟨x, hx, h⟩ hf
    simp at this; omega

/-- two variables and their and stand in the kernel -/
structure ThreeW (K : KV) (n m a b r1 r2 f : Nat) : Prop where
  pl : Plain K n m
  us : K.A.used = 5
  tk : ∀ x, K.A.tk x = true ↔ x = 0 ∨ x = 1 ∨ x = r1 ∨ x = r2 ∨ x = f
  d1 : ∀ y, K.den r1 y = y a
  d2 : ∀ y, K.den r2 y = y b
  df : ∀ y, K.den f y = (y a && y b)
  f2 : 2 ≤ f
  hf : K.hold f = 1

theorem TwoW.and {K K' : KV} {n m a b r1 r2 f : Nat} {c : Int} (h : TwoW K n m a b r1 r2) (hm : 6 ≤ m) (k' : K'.Ok) (u' : K'.Uni) (O : OpR K (K.fun3 (fun x y _ => opB 8 x y) r1 r2 0) f c K') : c = 0 ∧ ThreeW K' n m a b r1 r2 f := by
  have ht : ∀ y, K.fun3 (fun x y _ => opB 8 x y) r1 r2 0 y = (y a && y b) := fun y => by simp only [KV.fun3, opB_and, h.d1, h.d2]
  rcases O with ⟨rfl, O⟩ | ⟨_, _, _, s, _, _, hs⟩ | ⟨_, _, _, hno⟩
  · have wf := h.pl.ok.wf
    have df : ∀ y, K'.den f y = (y a && y b) := fun y => by rw [O.den, ht]
    have t1 : K.A.tk r1 = true := (h.tk r1).2 (by simp)
    have t2 : K.A.tk r2 = true := (h.tk r2).2 (by simp)
    have d1 : ∀ y, K'.den r1 y = y a := fun y => by rw [O.ext.den wf y t1, h.d1]
    have d2 : ∀ y, K'.den r2 y = y b := fun y => by rw [O.ext.den wf y t2, h.d2]
    have n0 : f ≠ 0 := by
      rintro rfl
      have := df fun _ => true
      rw [K'.den_const (by omega)] at this; cases this
    have n1 : f ≠ 1 := by
      rintro rfl
      have := df fun _ => false
      rw [K'.den_const (by omega)] at this; cases this
    have nr1 : f ≠ r1 := by
      rintro rfl
      have aa := df fun v => v == a
      have bb := d1 fun v => v == a
      rw [aa] at bb; simp at bb; have hh := h.ab; omega
    have nr2 : f ≠ r2 := by
      rintro rfl
      have aa := df fun v => v == b
      have bb := d2 fun v => v == b
      rw [aa] at bb; simp at bb; have hh := h.ab; omega
    have r10 : r1 ≠ 0 := by
      rintro rfl
      have := d1 fun _ => true
      rw [K'.den_const (by omega)] at this; cases this
    have r11 : r1 ≠ 1 := by
      rintro rfl
      have := d1 fun _ => false
      rw [K'.den_const (by omega)] at this; cases this
    have r20 : r2 ≠ 0 := by
      rintro rfl
      have := d2 fun _ => true
      rw [K'.den_const (by omega)] at this; cases this
    have r21 : r2 ≠ 1 := by
      rintro rfl
      have := d2 fun _ => false
      rw [K'.den_const (by omega)] at this; cases this
    have r12 : r1 ≠ r2 := by
      rintro rfl
      have aa := d1 fun v => v == a
      have bb := d2 fun v => v == a
      rw [aa] at bb; simp at bb; have hh := h.ab; omega
    have tk : ∀ x, K'.A.tk x = true ↔ x = 0 ∨ x = 1 ∨ x = r1 ∨ x = r2 ∨ x = f := by
      intro x
      constructor
      · intro hx
        rcases h.parts O.ext k' u' ht O.new x hx with h | h
        · omega
        · have : x = f := KV.canon k'.wf k'.ord u' _ _ _ hx O.tk (Nat.le_refl _) fun y => by rw [h, df]
          omega
      · rintro (rfl | rfl | rfl | rfl | rfl)
        · exact k'.tk_const (by omega)
        · exact k'.tk_const (by omega)
        · exact O.ext.tk t1
        · exact O.ext.tk t2
        · exact O.tk
    have hle := K'.used_le k'.wf (l := [0, 1, r1, r2, f]) fun x hx => by
      have := (tk x).1 hx
      simp; omega
    have hge := K'.used_ge k'.wf (l := [0, 1, r1, r2, f]) (by simp; omega) fun x hx => (tk x).2 (by simpa using hx)
    have hf0 : K.hold f = 0 := by
      by_cases hp : 0 < K.hold f
      · have := (h.tk f).1 (wf.ht f hp).2
        omega
      · omega
    refine ⟨rfl, h.pl.ext O.ext k' u', by simp at hle hge; omega, tk, d1, d2, df, by omega, ?_⟩
    rw [O.hd, hf0]; simp; omega
  · have := h.h1 s; omega
  · exact (h.fits hm ht hno).elim

end Go.Proofs.YtnenhecnkidnpaaGreat

