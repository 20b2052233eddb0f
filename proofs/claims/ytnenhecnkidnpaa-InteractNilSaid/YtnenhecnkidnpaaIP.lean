/- Bits of words, and supports, as data. -/
import Derived.Test.YtnenhecnkidnpaaIG
namespace Go.Proofs.Ytnenhecnkidnpaa
open Go.RowKit Go.Maps Go.ChangeMaps Go.WideShapes

/-! ### bits of words -/
def nb (x : Int) (i : Nat) : Bool := x.toNat.testBit i

theorem toNat_bv {x : Int} (h : U64 x) : (BitVec.ofInt 64 x).toNat = x.toNat := by
  unfold U64 at h
  rw [BitVec.toNat_ofInt]
  have : x % (2 ^ 64 : Nat) = x := by omega
  rw [this]
theorem nb_bv {x : Int} (h : U64 x) (i : Nat) : nb x i = (BitVec.ofInt 64 x).getLsbD i := by
  unfold nb; rw [← toNat_bv h, BitVec.testBit_toNat]
theorem nb_of_bv (B : BitVec 64) (i : Nat) : nb ((B.toNat : Int) % 18446744073709551616) i = B.getLsbD i := by
  have h := B.isLt
  have : ((B.toNat : Int) % 18446744073709551616).toNat = B.toNat := by omega
  unfold nb; rw [this, BitVec.testBit_toNat]

theorem nb_or {x y : Int} (hx : U64 x) (hy : U64 y) (i : Nat) : nb (bits BinOp.or IntKind.u64 x y) i = (nb x i || nb y i) := by
  rw [nb_bv hx, nb_bv hy, ← BitVec.getLsbD_or]
  exact nb_of_bv (BitVec.ofInt 64 x ||| BitVec.ofInt 64 y) i
theorem nb_and {x y : Int} (hx : U64 x) (hy : U64 y) (i : Nat) : nb (bits BinOp.and IntKind.u64 x y) i = (nb x i && nb y i) := by
  rw [nb_bv hx, nb_bv hy, ← BitVec.getLsbD_and]
  exact nb_of_bv (BitVec.ofInt 64 x &&& BitVec.ofInt 64 y) i
theorem nb_andNot {x y : Int} (hx : U64 x) (hy : U64 y) {i : Nat} (hi : i < 64) : nb (bits BinOp.andNot IntKind.u64 x y) i = (nb x i && !nb y i) := by
  rw [nb_bv hx, nb_bv hy]
  have e : nb (bits BinOp.andNot IntKind.u64 x y) i = (BitVec.ofInt 64 x &&& ~~~BitVec.ofInt 64 y).getLsbD i := nb_of_bv _ i
  rw [e, BitVec.getLsbD_and, BitVec.getLsbD_not, decide_eq_true hi, Bool.true_and]
theorem nb_pow {n : Nat} (hn : n < 64) (i : Nat) : nb (IntKind.u64.wrap (2 ^ n)) i = decide (n = i) := by
  have e : IntKind.u64.wrap ((2 : Int) ^ n) = (2 : Int) ^ n % 18446744073709551616 := rfl
  have h1 : (2 : Nat) ^ n < 2 ^ 64 := Nat.pow_lt_pow_right (by omega) hn
  have h2 : ((2 : Int) ^ n) = ((2 ^ n : Nat) : Int) := by push_cast; rfl
  have h3 : ((2 : Int) ^ n % 18446744073709551616).toNat = 2 ^ n := by rw [h2]; generalize (2 : Nat) ^ n = m at h1 ⊢; omega
  rw [e]; unfold nb; rw [h3, Nat.testBit_two_pow]
theorem nb_zero (i : Nat) : nb 0 i = false := by simp [nb]
theorem nb_ext {x y : Int} (hx : U64 x) (hy : U64 y) (h : ∀ i, i < 64 → nb x i = nb y i) : x = y := by
  have : x.toNat = y.toNat := by
    apply Nat.eq_of_testBit_eq
    intro i
    by_cases hi : i < 64
    · exact h i hi
    · have l : ∀ z : Int, U64 z → z.toNat.testBit i = false := fun z hz => by
        apply Nat.testBit_lt_two_pow
        have h1 : (2 : Nat) ^ 64 ≤ 2 ^ i := Nat.pow_le_pow_right (by omega) (by omega)
        unfold U64 at hz; omega
      rw [l x hx, l y hy]
  unfold U64 at hx hy; omega

theorem bitT_nb {x : Int} (hx : U64 x) (v : Nat) : bitT x v = nb x v := by
  obtain ⟨n, rfl⟩ : ∃ n : Nat, x = (n : Int) := ⟨x.toNat, by unfold U64 at hx; omega⟩
  have hn : n < 18446744073709551616 := by unfold U64 at hx; omega
  have e : ((n : Int) / 2 ^ v) = ((n / 2 ^ v : Nat) : Int) := by push_cast; rfl
  have hu : U64 ((n : Int) / 2 ^ v) := by
    rw [e]; have := Nat.div_le_self n (2 ^ v); generalize n / 2 ^ v = m at this ⊢; unfold U64; omega
  have h1 : U64 1 := by unfold U64; omega
  have hbit : nb ((n : Int) / 2 ^ v) 0 = nb (n : Int) v := by
    rw [e]; unfold nb
    simp only [Int.toNat_natCast]
    rw [Nat.testBit_div_two_pow, Nat.zero_add]
  have h2 : ∀ i, nb (bits BinOp.and IntKind.u64 ((n : Int) / 2 ^ v) 1) i = (nb ((n : Int) / 2 ^ v) i && decide (i = 0)) := fun i => by
    rw [nb_and hu h1]
    congr 1
    have : nb 1 i = decide (0 = i) := nb_pow (n := 0) (by omega) i
    rw [this]; by_cases h : i = 0 <;> simp [h]; omega
  have hW := bits_u64 BinOp.and ((n : Int) / 2 ^ v) 1
  unfold bitT
  cases hb : nb (n : Int) v with
  | true =>
    have : bits BinOp.and IntKind.u64 ((n : Int) / 2 ^ v) 1 = 1 := nb_ext hW h1 fun i _ => by
      have e1 : nb 1 i = decide (0 = i) := nb_pow (n := 0) (by omega) i
      rw [h2, e1]
      by_cases h : i = 0
      · subst h; rw [hbit, hb]; rfl
      · simp [h]; omega
    rw [this]; rfl
  | false =>
    have : bits BinOp.and IntKind.u64 ((n : Int) / 2 ^ v) 1 = 0 := nb_ext hW (by unfold U64; omega) fun i _ => by
      rw [h2, nb_zero]
      by_cases h : i = 0
      · subst h; rw [hbit, hb]; rfl
      · simp [h]
    rw [this]; rfl

/-! ### supports -/
theorem WalkL.one {K : KV} {r : Nat} {N : List Nat} (h : WalkL K [] [r] N) : WalkN K [] r N := by
  cases h with
  | cons h t => cases t; simpa using h

theorem KV.Under.node {K : KV} {P : List Nat} (hw : K.Wf P) {r x : Nat} (ht : K.A.tk r = true) (h : K.Under r x) : 2 ≤ x ∧ K.A.tk x = true := by
  induction h with
  | refl h => exact ⟨h, ht⟩
  | lo _ hp h2 ih =>
    obtain ⟨p', hp', hpt'⟩ := ArenaV.tk_iff.1 ih.2
    rw [hp] at hp'; cases hp'
    exact ⟨h2, (hw.cl _ _ ih.1 hp hpt').1⟩
  | hi _ hp h2 ih =>
    obtain ⟨p', hp', hpt'⟩ := ArenaV.tk_iff.1 ih.2
    rw [hp] at hp'; cases hp'
    exact ⟨h2, (hw.cl _ _ ih.1 hp hpt').2⟩

theorem WalkN.mem {K : KV} {r x : Nat} {N : List Nat} (h : WalkN K [] r N) : x ∈ N ↔ K.Under r x := by
  refine ⟨h.under x, fun hu => ?_⟩
  induction hu with
  | refl h2 => simpa using h.has h2
  | lo _ hp h2 ih =>
    rcases (h.kids _ _ ih hp).1 with h3 | h3
    · omega
    · simpa using h3
  | hi _ hp h2 ih =>
    rcases (h.kids _ _ ih hp).2 with h3 | h3
    · omega
    · simpa using h3

/-- the child of a node, out of the node's function -/
theorem KV.Ok.kid_den {K : KV} (hk : K.Ok) {x : Nat} {p : PlaceV} (h2 : 2 ≤ x) (hp : K.A.list[x]? = some p) (hpt : p.taken = true) (b : Bool) (y : Nat → Bool) : K.den (if b then p.hi else p.lo) y = K.den x (upd y p.var.toNat b) := by
  cases b with
  | true => exact (KV.den_hi hk.wf hk.ord h2 hp hpt y).symm
  | false => exact (KV.den_lo hk.wf hk.ord h2 hp hpt y).symm

theorem KV.Ok.mix_kid {K : KV} (hk : K.Ok) {r x : Nat} {p : PlaceV} (h2 : 2 ≤ x) (hp : K.A.list[x]? = some p) (hpt : p.taken = true) (b : Bool) {a : Nat → Bool} (ha : ∀ y, K.den x y = K.den r (K.mix (K.dep x) a y)) :
    ∃ a', ∀ y, K.den (if b then p.hi else p.lo) y = K.den r (K.mix (K.dep (if b then p.hi else p.lo)) a' y) := by
  have hvr := hk.wf.vr x p h2 hp hpt
  have hb := hk.ord.below hk.wf h2 hp hpt
  have hcl := hk.wf.cl x p h2 hp hpt
  have hdx : K.dep x = K.lev p.var.toNat := by simp [KV.dep, hp, hvr.1]
  have hvl : p.var.toNat < K.vars := by omega
  generalize hc : (if b then p.hi else p.lo) = c
  have htc : K.A.tk c = true := by
    subst hc; cases b
    · exact hcl.1
    · exact hcl.2
  have hdc : K.dep x < K.dep c := by
    subst hc; cases b
    · exact hb.1
    · exact hb.2
  refine ⟨upd a p.var.toNat b, fun y => ?_⟩
  have e1 : K.den c y = K.den c (K.mix (K.dep c) (upd a p.var.toNat b) y) := KV.den_same hk.wf hk.ord _ c _ _ htc (Nat.le_refl _) fun u hu hd => by
    simp only [KV.mix]; rw [if_neg (by omega)]
  rw [e1, ← hc, hk.kid_den h2 hp hpt, ha, hc]
  congr 1
  funext u
  simp only [KV.mix, upd]
  by_cases hu : u < K.vars
  · by_cases h3 : u = p.var.toNat
    · subst h3
      simp only [hu, true_and, if_true]
      rw [if_neg (by omega), if_pos (by omega)]
    · simp only [hu, true_and, h3, if_false]
      by_cases h4 : K.lev u < K.dep x
      · rw [if_pos h4, if_pos (by omega)]
      · rw [if_neg h4]
  · have h3 : u ≠ p.var.toNat := by omega
    simp [hu, h3]

theorem KV.Ok.mix_under {K : KV} (hk : K.Ok) {r x : Nat} (ht : K.A.tk r = true) (h : K.Under r x) : ∃ a, ∀ y, K.den x y = K.den r (K.mix (K.dep x) a y) := by
  induction h with
  | refl h => exact ⟨fun _ => false, fun y => KV.den_same hk.wf hk.ord _ r _ _ ht (Nat.le_refl _) fun u hu hd => by
      simp only [KV.mix]; rw [if_neg (by omega)]⟩
  | lo h hp h2 ih =>
    obtain ⟨a, ha⟩ := ih
    have hn := h.node hk.wf ht
    obtain ⟨p', hp', hpt'⟩ := ArenaV.tk_iff.1 hn.2
    rw [hp] at hp'; cases hp'
    exact hk.mix_kid hn.1 hp hpt' false ha
  | hi h hp h2 ih =>
    obtain ⟨a, ha⟩ := ih
    have hn := h.node hk.wf ht
    obtain ⟨p', hp', hpt'⟩ := ArenaV.tk_iff.1 hn.2
    rw [hp] at hp'; cases hp'
    exact hk.mix_kid hn.1 hp hpt' true ha

/-- a function depends on a variable -/
def Hangs (t : (Nat → Bool) → Bool) (v : Nat) : Prop := ∃ y, t (upd y v true) ≠ t (upd y v false)

theorem KV.Ok.hangs_of {K : KV} (hk : K.Ok) (hu : K.Uni) {r x : Nat} {p : PlaceV} (ht : K.A.tk r = true) (h : K.Under r x) (hp : K.A.list[x]? = some p) : Hangs (K.den r) p.var.toNat := by
  have hn := h.node hk.wf ht
  obtain ⟨p', hp', hpt⟩ := ArenaV.tk_iff.1 hn.2
  rw [hp] at hp'; cases hp'
  have hvr := hk.wf.vr x p hn.1 hp hpt
  have hcl := hk.wf.cl x p hn.1 hp hpt
  have hdx : K.dep x = K.lev p.var.toNat := by simp [KV.dep, hp, hvr.1]
  obtain ⟨a, ha⟩ := hk.mix_under ht h
  have hne : ∃ y, K.den p.hi y ≠ K.den p.lo y := by
    by_cases hh : ∃ y, K.den p.hi y ≠ K.den p.lo y
    · exact hh
    · exfalso
      refine hk.ord.ne x p hn.1 hp hpt (KV.canon hk.wf hk.ord hu _ _ _ hcl.1 hcl.2 (Nat.le_refl _) fun y => ?_)
      by_cases h : K.den p.lo y = K.den p.hi y
      · exact h
      · exact absurd ⟨y, fun e => h e.symm⟩ hh
  obtain ⟨y, hy⟩ := hne
  refine ⟨K.mix (K.dep x) a y, ?_⟩
  have e : ∀ b, upd (K.mix (K.dep x) a y) p.var.toNat b = K.mix (K.dep x) a (upd y p.var.toNat b) := fun b => by
    funext u
    simp only [KV.mix, upd]
    by_cases h3 : u = p.var.toNat
    · subst h3; rw [if_pos rfl, if_neg (by omega), if_pos rfl]
    · simp [h3]
  rw [e, e, ← ha, ← ha]
  have e1 := hk.kid_den hn.1 hp hpt true y
  have e2 := hk.kid_den hn.1 hp hpt false y
  simp only [if_true] at e1
  simp only [Bool.false_eq_true, if_false] at e2
  rw [← e1, ← e2]; exact hy

theorem KV.Ok.hangs_not {K : KV} (hk : K.Ok) {v : Nat} : ∀ (n r : Nat), K.vars - K.dep r ≤ n → K.A.tk r = true → (∀ x p, K.Under r x → K.A.list[x]? = some p → p.var.toNat ≠ v) → ∀ y b, K.den r (upd y v b) = K.den r y
  | n, r, hn, ht, hx, y, b => by
    by_cases h2 : 2 ≤ r
    · obtain ⟨p, u, hp, hpt, hpv, hu, h3, h4, hd⟩ := hk.wf.node_at h2 ht
      have hb := hk.ord.below hk.wf h2 hp hpt
      have hlt := hk.wf.dep_lt hk.ord h2 ht
      have hv := hx r p (.refl h2) hp
      match n with
      | 0 => omega
      | n + 1 =>
        have ih : ∀ c, K.A.tk c = true → K.dep r < K.dep c → (2 ≤ c → K.Under r c) → K.den c (upd y v b) = K.den c y := fun c hc hd hu => by
          by_cases hc2 : 2 ≤ c
          · exact KV.Ok.hangs_not hk n c (by omega) hc (fun x q hx' hq => hx x q ((hu hc2).trans hx') hq) y b
          · rw [K.den_const (by omega), K.den_const (by omega)]
        rw [KV.den_node hk.wf hk.ord h2 hp hpt, KV.den_node hk.wf hk.ord h2 hp hpt, upd_ne _ _ hv, ih p.hi h4 hb.2 (fun h => .hi (.refl h2) hp h), ih p.lo h3 hb.1 (fun h => .lo (.refl h2) hp h)]
    · rw [K.den_const (by omega), K.den_const (by omega)]

theorem KV.Wf.vof_lt {K : KV} {P : List Nat} (h : K.Wf P) {x : Nat} (h2 : 2 ≤ x) (ht : K.A.tk x = true) : K.vof x < K.vars := by
  obtain ⟨p, v, hp, _, hv, hl, _⟩ := h.node_at h2 ht
  simp [KV.vof, hp]; omega

theorem sup_fold' (K : KV) (N : List Nat) (hv : ∀ x, x ∈ N → K.vof x < 64) (s : Int) (hs : U64 s) : U64 (N.foldl (fun s x => supStep s (K.vof x)) s) ∧ ∀ i, nb (N.foldl (fun s x => supStep s (K.vof x)) s) i = (nb s i || decide (∃ x, x ∈ N ∧ K.vof x = i)) := by
  induction N generalizing s with
  | nil => exact ⟨hs, fun i => by simp⟩
  | cons a N ih =>
    obtain ⟨h1, h2⟩ := ih (fun x hx => hv x (by simp [hx])) (supStep s (K.vof a)) (bits_u64 _ _ _)
    refine ⟨h1, fun i => ?_⟩
    rw [List.foldl_cons, h2]
    unfold supStep
    rw [nb_or hs (wrap_u64 _), nb_pow (hv a (by simp)), Bool.or_assoc]
    congr 1
    rw [Bool.eq_iff_iff]
    simp

/-- the support is the set of the variables on which a function depends -/
theorem SupIs.bits {K : KV} {r : Nat} {s : Int} (hk : K.Ok) (hu : K.Uni) (ht : K.A.tk r = true) (h : SupIs K r s) : U64 s ∧ ∀ v, nb s v = true ↔ Hangs (K.den r) v := by
  obtain ⟨N, hN, rfl⟩ := h
  have hN := hN.one
  have hv : ∀ x, x ∈ N → K.vof x < 64 := fun x hx => by
    have := hN.two x hx
    have := hk.wf.vof_lt this.1 this.2
    have := hk.wf.vs
    omega
  obtain ⟨h1, h2⟩ := sup_fold' K N hv 0 (by unfold U64; omega)
  refine ⟨h1, fun v => ?_⟩
  rw [h2, nb_zero, Bool.false_or, decide_eq_true_eq]
  constructor
  · rintro ⟨x, hx, rfl⟩
    have ht' := hN.two x hx
    obtain ⟨p, hp, hpt⟩ := ArenaV.tk_iff.1 ht'.2
    have := hk.hangs_of hu ht (hN.under x hx) hp
    simpa [KV.vof, hp] using this
  · intro hh
    by_cases he : ∃ x, x ∈ N ∧ K.vof x = v
    · exact he
    · exfalso
      obtain ⟨y, hy⟩ := hh
      have key := hk.hangs_not (v := v) _ r (Nat.le_refl _) ht (fun x p hx hp hv => he ⟨x, hN.mem.2 hx, by simp [KV.vof, hp, hv]⟩)
      exact hy (by rw [key, key])
end Go.Proofs.Ytnenhecnkidnpaa
